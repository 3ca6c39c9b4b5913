/-
  serial.Check walked.
-/
import Derived.Test.YtjaegddnikkibaaGreatDoorSerChk
import Derived.WalkSmall
import Derived.WideMake
import Derived.Laws.OwnMore
set_option linter.unusedVariables false
set_option linter.unusedSimpArgs false
namespace Go.Proofs.YtjaegddnikkibaaGreatDoor
open Go.RowKit Go.Sort Go.Maps Go.Shelf
attribute [local go_sem] Oper.semAt_some

theorem rowAt_of_own {w : World} {base g n : Nat} {zs : List Int} (h : w.ownsRow base 3 1 (.slice (some ⟨g, 0, none⟩) n n) n (zs.map (Value.int .i64))) : RowAt w g zs := by
  rcases h.2 with ⟨h', _⟩ | ⟨g', cap', cur, h', hb, hg, hnc, hcm, hcs, htake⟩
  · simp at h'
  · simp only [Value.slice.injEq, Option.some.injEq, Addr.mk.injEq, and_true, true_and] at h'
    obtain ⟨rfl, rfl⟩ := h'
    refine ⟨cur, hg, fun j v hj => ?_⟩
    have h1 : (zs.map (Value.int .i64))[j]? = some (.int .i64 v) := by rw [List.getElem?_map, hj]; rfl
    rw [← htake, List.getElem?_take] at h1
    split at h1
    · rw [← h1]; simp
    · cases h1

/-- the one ahead in the order -/
def pvO (o : List Int) (k : Nat) : Option Int := if k = 0 then none else some (o.getD (k - 1) 0)
theorem MapF.drewN {m : Nat} {w W : World} (h : MapF m w W) (q : Nat) : MapF m w (W.drewN q) := ⟨h.os, h.tape, h.output, h.size, h.block⟩
theorem MapF.drew {m : Nat} {w W : World} (h : MapF m w W) : MapF m w W.drew := ⟨h.os, h.tape, h.output, h.size, h.block⟩
theorem below_put {B D : Nat} {a W : World} (h : Below B a W) (hD : B ≤ D) (x : Obj) : Below B a (W.putObj D x) :=
  ⟨h.os, h.tape, h.output, by simpa using h.size, fun k hk => (World.putObj_heap_other (by omega)).trans (h.block k hk)⟩

set_option maxHeartbeats 4000000 in
set_option maxRecDepth 100000 in
theorem scheck_any (A : Option Addr) (c : Nat) (l : List Att) (hn : l.length ≤ 1048576) (hO : ∀ x ∈ l, x.Ok) (w : World) (ha : AttsAt w w.heap.size A l) :
    Calls Tryz.prog 8 #[.slice A l.length c] w fun e w' => e = .returned (.tuple #[.int .i64 (scheckV l).1, .int .i64 (scheckV l).2]) ∧ Below w.heap.size w w' := by
  have HC := Lib.hid (fun w1 (h : Below w.heap.size w w1) => order_any A c l hn hO w1 (ha.keep h h.size))
  have HA := Lib.hid (fun W (h : Below w.heap.size w W) => ha.keep h (Nat.le_refl _))
  have HOK := Lib.hid hO
  clear ha hO
  obtain ⟨i0, hi0, hz0, hz1, hz2⟩ := info_parts info_int
  by_cases hck : checkedV l = 0
  · obtain ⟨hts, hatt⟩ := checkedOk hck
    have HTL := Lib.hid (fun x hx => Nat.le_trans (evsLe l x hx) hts)
    have HOO : Hid (∀ x ∈ l, x.Ok ∧ ∀ e ∈ x.evs, evB x.th e = true) := Lib.hid (fun x hx => ⟨HOK.out x hx, hatt x hx⟩)
    have HV : Hid (scheckV l = failV 16 (scheckGo l none (orderV l) (fun _ => 0))) := Lib.hid (by unfold scheckV; rw [if_pos hck])
    have HK := Lib.hid hck
    have hsum := Lib.hid (Nat.le_trans (evSum_order (l := l)) hts)
    have hol : (orderV l).length ≤ 1048576 := Nat.le_trans (by have h := (sortB_perm (stB id (ltN l)) (committed 0 l)).length_eq; have := committed_len l 0; unfold orderV; omega) hn
    have HR : Hid (∀ i ∈ orderV l, ∃ j : Nat, i = j ∧ j < l.length) := Lib.hid (fun i hi => by
      obtain ⟨j, hj, x, hx, -⟩ := orderV_mem hi
      exact ⟨j, hj, (List.getElem?_eq_some_iff.1 hx).1⟩)
    clear hatt hts hck
    generalize scheckV l = res at *
    refine (callsIn_wide (n := 9)).1 (callsIn_of_wp_marks Tryz.func8 rfl trivial (wpIn_wide.2 ?_) rfl)
    simp only [Tryz.ntmps8, List.size_toArray, List.length_cons, List.length_nil, Nat.reduceAdd, Nat.reduceSub, Array.replicate_succ, Array.replicate_zero, List.push_toArray, List.append_toArray, List.nil_append, List.cons_append]
    go_wp2_with fail
    refine (HC.out _ ((Below.refl _ _).alloc (Nat.le_refl _) _)).mono ?_
    rintro e w1 ⟨hb1, ⟨hbad, -⟩ | ⟨-, OA, oc, rfl, hI⟩⟩
    · exact absurd HK.out hbad
    have HI := Lib.hid (fun W (h : Below w1.heap.size w1 W) => hI.keep h)
    have hl1 : w1.cell? ⟨w.heap.size, 0, none⟩ = some (.slice A l.length c) := by
      rw [hb1.cell (p := ⟨w.heap.size, 0, none⟩) (by simp)]; simp
    have hs1 : w.heap.size + 1 ≤ w1.heap.size := by have := hb1.size; simpa using this
    have HB1 : Hid (Below w.heap.size w w1) := Lib.hid (((Below.refl _ _).alloc (Nat.le_refl _) _).trans (hb1.mono (by simp)))
    clear hb1 hI
    generalize orderV l = o at *
    go_wp2_with (at_make; refine wpList_make_full _ rfl _ _ 26 rfl w1.heap.size 3 i0 (.int .i64 0) 1 Tryz.underlying26 hi0 hz0 hz1 .i64 .i64 _ _ (o.length + 1) rfl rfl (by simp) (by simp) (by rw [hz2]; omega) (by unfold maxLen; omega) (Nat.le_refl _) ?_)
    intro w2 hown hgrow
    have hR2 : RowAt w2 w1.heap.size (List.replicate (o.length + 1) 0) := rowAt_of_own (by
      rw [List.map_replicate, ← toList_madeCells_one]
      simpa using hown)
    have hb2 : Below w1.heap.size w1 w2 := (Below.refl _ _).grown hgrow (Nat.le_refl _) (fun k h => by cases h)
    have hg2 : w1.heap.size < w2.heap.size := hR2.lt
    obtain ⟨w3, hw3⟩ : ∃ w3, w2.alloc (.cells #[.slice (some ⟨w1.heap.size, 0, none⟩) (o.length + 1) (o.length + 1)] 26 (0, 0)) = w3 := ⟨_, rfl⟩
    have hb3 : Below w2.heap.size w2 w3 := by rw [← hw3]; exact (Below.refl _ _).alloc (Nat.le_refl _) _
    have hR3 : RowAt w3 w1.heap.size (List.replicate (o.length + 1) 0) := hR2.of_block (hb3.block _ hg2)
    have hs3 : w3.heap.size = w2.heap.size + 1 := by rw [← hw3]; simp
    have q5 : w3.cell? ⟨w2.heap.size, 0, none⟩ = some (.slice (some ⟨w1.heap.size, 0, none⟩) (o.length + 1) (o.length + 1)) := by rw [← hw3]; simp
    have qg : w3.cell? ⟨w1.heap.size, o.length, none⟩ = some (.int .i64 0) := hR3.cell (by simp)
    have qf := hR3.frozen o.length
    have p1 : (o.length : Int) < ((o.length + 1 : Nat) : Int) := by omega
    have p3 : (0 : Int) ≤ (o.length : Int) := Int.natCast_nonneg _
    have HR4 : Hid (RowAt (w3.setCell ⟨w1.heap.size, o.length, none⟩ (.int .i64 9223372036854775807)) w1.heap.size (startR o.length)) := Lib.hid (by
      have := hR3.set o.length 9223372036854775807
      rwa [show (List.replicate (o.length + 1) 0).set o.length (9223372036854775807 : Int) = startR o.length by
        unfold startR
        rw [List.replicate_succ', List.set_append, if_neg (by simp)]
        simp] at this)
    clear hown hgrow
    go_wp2_with fail
    refine (backw_any OA o.length oc _).mono ?_
    rintro e w5 ⟨rfl, rfl⟩
    go_wp2_with fail
    obtain ⟨wX, hwX⟩ : ∃ wX, (w3.setCell ⟨w1.heap.size, o.length, none⟩ (.int .i64 9223372036854775807)).alloc (.cells #[.slice OA o.length oc] 26 (0, 0)) = wX := ⟨_, rfl⟩
    rw [hwX]
    have hsX : wX.heap.size = w2.heap.size + 2 := by rw [← hwX]; simp; omega
    have hbX3 : Below w1.heap.size w3 wX := by
      rw [← hwX]
      exact ((Below.refl _ _).setCell (p := ⟨w1.heap.size, o.length, none⟩) (Nat.le_refl _) _).alloc (by simp; omega) _
    have hbX : Below w1.heap.size w1 wX := (hb2.trans (hb3.mono hb2.size)).trans hbX3
    have HWX : Hid (Below w.heap.size w wX) := Lib.hid (HB1.out.trans (hbX.mono HB1.out.size))
    have hRX : RowAt wX w1.heap.size (startR o.length) := HR4.out.of_block (by rw [← hwX]; exact Below.heap_alloc _ _ _ (by simp; omega))
    have kX : ∀ (B : Nat), B < w3.heap.size → B ≠ w1.heap.size → wX.cell? ⟨B, 0, none⟩ = w3.cell? ⟨B, 0, none⟩ := fun B h1 h2 => by
      rw [← hwX]
      refine (((Below.refl _ _).alloc (Nat.le_refl _) _).cell (p := ⟨B, 0, none⟩) (by simpa using h1)).trans ?_
      exact World.cell?_setCell_other _ _ _ _ (by intro e; simp only [Addr.mk.injEq] at e; exact h2 e.1.symm)
    have xL : wX.cell? ⟨w.heap.size, 0, none⟩ = some (.slice A l.length c) := (hbX.cell (p := ⟨w.heap.size, 0, none⟩) (by show w.heap.size < _; omega)).trans hl1
    have x5 : wX.cell? ⟨w2.heap.size, 0, none⟩ = some (.slice (some ⟨w1.heap.size, 0, none⟩) (o.length + 1) (o.length + 1)) := (kX _ (by omega) (by omega)).trans q5
    have xS : wX.cell? ⟨w2.heap.size + 1, 0, none⟩ = some (.slice OA o.length oc) := by
      rw [show w2.heap.size + 1 = (w3.setCell ⟨w1.heap.size, o.length, none⟩ (.int .i64 9223372036854775807)).heap.size by simp; omega, ← hwX]
      have h := heap_alloc_new (w3.setCell ⟨w1.heap.size, o.length, none⟩ (.int .i64 9223372036854775807)) (.cells #[.slice OA o.length oc] 26 (0, 0))
      simp only [World.cell?, h]
      rfl
    have hIX := HI.out wX hbX
    clear hwX kX q5 qg qf hR3 hR2 hb2 hb3 hbX3 hw3 HR4 hl1 p1 p3
    refine (wpIn_wide (n := 9)).1 ?_
    refine wpIn_rangeFunc_ownF (F := Fence.wide) (n := 9) rfl (by omega) (gf := 129) (lb := #[.pointer (some ⟨w2.heap.size + 1, 0, none⟩)]) rfl trivial (enters_of Tryz.func129 (by kernel_rfl) rfl)
      (backw_stops 8 (w2.heap.size + 1) wX.heap.size w1.heap.size oc OA o (by omega) hol wX (by omega) (by omega) (Nat.le_refl _) xS (fun hne => by
        obtain ⟨b, off, hA, hb, hcs⟩ := HI.out w1 (Below.refl _ _) hne
        obtain ⟨b', off', hA', hb', hcs'⟩ := hIX hne
        rw [hA] at hA'
        simp only [Option.some.injEq, Addr.mk.injEq, and_true] at hA'
        obtain ⟨rfl, rfl⟩ := hA'
        exact ⟨b, off, hA, hb', by omega, hcs'⟩))
      (fun h k => h.trans k) (fun W l' o' o'' hl _ _ _ => KeepX.put o'' hl) (Below.refl _ _) (fun _ => rfl)
      (fun pre W => KeepX wX.heap.size w1.heap.size wX W ∧ RowAt W w1.heap.size (foldR l pre))
      (fun _ _ _ => False)
      (fun s W W' row hs hg hr => ⟨hs.1.grown hs.1.size hg (fun r e => (hr r e).1), hs.2.of_block (hg.block _ hs.2.lt (fun e => by have := (hr _ e.symm).1; omega))⟩)
      (fun _ _ _ _ _ hs _ _ => hs)
      ⟨KeepX.refl _ _ _, hRX⟩ ?a1 ?assign ?body ?done ?stop
    case assign =>
      intro l' x W K hK
      gi_wp2
      exact hK
    case stop =>
      rintro D c' pre W _ _ h _
      exact h.elim
    case body =>
      rintro l' pre ⟨⟨i, v⟩, hx⟩ W ⟨hKp, hRow⟩ hlt
      dsimp only at hx
      have hil : i < o.length := (List.getElem?_eq_some_iff.1 hx).1
      obtain ⟨j, rfl, hj⟩ := HR.out v (List.mem_of_getElem? hx)
      obtain ⟨b, off, rfl, hbl, hc⟩ := (HA.out _ HWX.out).row (by rintro rfl; simp at hj)
      have xE := (hc j _ (List.getElem?_eq_getElem hj)).c3
      obtain ⟨ri, hri⟩ : ∃ ri, (foldR l pre)[i + 1]? = some ri := ⟨_, List.getElem?_eq_getElem (by rw [foldR_length]; omega)⟩
      have HS : Hid (∀ W1, KeepX wX.heap.size w1.heap.size wX W1 → RowAt W1 w1.heap.size (foldR l pre) → W1.cell? ⟨w2.heap.size, 0, none⟩ = some (.slice (some ⟨w1.heap.size, 0, none⟩) (o.length + 1) (o.length + 1)) ∧ W1.cell? ⟨w1.heap.size, i + 1, none⟩ = some (.int .i64 ri) ∧ W1.cell? ⟨w.heap.size, 0, none⟩ = some (.slice (some ⟨b, off, none⟩) l.length c) ∧ W1.cell? ⟨b, off + j * 8 + 3, none⟩ = some (.int .i64 l[j].en)) := Lib.hid (fun W1 hK1 hR1 =>
        ⟨(hK1.cell (p := ⟨w2.heap.size, 0, none⟩) (by show w2.heap.size < _; omega) (by show w2.heap.size ≠ _; omega)).trans x5, hR1.cell hri,
          (hK1.cell (p := ⟨w.heap.size, 0, none⟩) (by show w.heap.size < _; omega) (by show w.heap.size ≠ _; omega)).trans xL,
          (hK1.cell (p := ⟨b, _, none⟩) (by show b < _; have := HWX.out.size; omega) (by show b ≠ _; omega)).trans xE⟩)
      obtain ⟨ro, hro⟩ : ∃ ro, (foldR l pre)[i]? = some ro := ⟨_, List.getElem?_eq_getElem (by rw [foldR_length]; omega)⟩
      have qg := hRow.cell hro
      have qf := hRow.frozen i
      have hKp2 := Lib.hid hKp
      have hRow2 := Lib.hid hRow
      have hmin : Hid (foldR l (pre ++ [⟨(i, (j : Int)), hx⟩]) = (foldR l pre).set i (min ri l[j].en)) := Lib.hid (by
        rw [foldR_snoc]
        unfold stepR
        dsimp only
        rw [List.getD_eq_getElem?_getD, hri, attN_get hj]; rfl)
      generalize l[j].en = en at *
      have p1 : (i : Int) + 1 < ((o.length + 1 : Nat) : Int) := by omega
      have p2 : (i : Int) < ((o.length + 1 : Nat) : Int) := by omega
      have p3 : (0 : Int) ≤ (i : Int) := Int.natCast_nonneg _
      have p4 : (0 : Int) ≤ (j : Int) := Int.natCast_nonneg _
      have p5 : (j : Int) < (l.length : Int) := by omega
      have p6 : (0 : Int) ≤ (i : Int) + 1 := by omega
      have p7 : (i : Int) < (o.length : Int) + 1 := by omega
      have p8 : (i : Int) + 1 < (o.length : Int) + 1 := by omega
      have hwr : IntKind.i64.wrap ((i : Int) + 1) = (i : Int) + 1 := by rw [IntKind.wrap_i64]; omega
      clear hKp hRow xE hc hri hro HWX hIX xS x5 xL
      refine wpIn_block ?_
      refine wpIn_region_L (l := 14) (S := (fun W1 => W1.cell? ⟨w2.heap.size, 0, none⟩ = some (.slice (some ⟨w1.heap.size, 0, none⟩) (o.length + 1) (o.length + 1)) ∧ W1.cell? ⟨w1.heap.size, i + 1, none⟩ = some (.int .i64 ri) ∧ W1.cell? ⟨w.heap.size, 0, none⟩ = some (.slice (some ⟨b, off, none⟩) l.length c) ∧ W1.cell? ⟨b, off + j * 8 + 3, none⟩ = some (.int .i64 en))) (by kernel_rfl) (fun _ _ h => h) (by kernel_rfl) ?_ (fun hHeld => ?_)
      · ((try dsimp only); (exact HS.out W.drew hKp2.out.drew hRow2.out))
      refine wpAnyL_take (i := 0) (oi := _) (v := ?v1) rfl (by kernel_rfl) (fun _ _ _ h => h) (by assumption) (Or.inl ⟨by kernel_rfl, ?y1⟩) ?r1
      case y1 => (intro w hSw; (try dsimp only at hSw); go_simp; all_goals with_reducible rfl)
      try simp only [Act.put, List.setIfInBounds_toArray, List.set_cons_zero, List.set_cons_succ]
      refine wpAnyL_take (i := 1) (oi := _) (v := ?v2) rfl (by kernel_rfl) (fun _ _ _ h => h) (by assumption) (Or.inl ⟨by kernel_rfl, ?y2⟩) ?r2
      case y2 => (intro w hSw; (try dsimp only at hSw); go_simp; all_goals with_reducible rfl)
      try simp only [Act.put, List.setIfInBounds_toArray, List.set_cons_zero, List.set_cons_succ]
      refine wpAnyL_take (i := 2) (oi := _) (v := ?v3) rfl (by kernel_rfl) (fun _ _ _ h => h) (by assumption) (Or.inl ⟨by kernel_rfl, ?y3⟩) ?r3
      case y3 => (intro w hSw; (try dsimp only at hSw); go_simp; all_goals with_reducible rfl)
      try simp only [Act.put, List.setIfInBounds_toArray, List.set_cons_zero, List.set_cons_succ]
      refine wpAnyL_take (i := 3) (oi := _) (v := ?v4) rfl (by kernel_rfl) (fun _ _ _ h => h) (by assumption) (Or.inl ⟨by kernel_rfl, ?y4⟩) ?r4
      case y4 => (intro w hSw; (try dsimp only at hSw); go_simp; all_goals with_reducible rfl)
      try simp only [Act.put, List.setIfInBounds_toArray, List.set_cons_zero, List.set_cons_succ]
      refine wpAnyL_take (i := 4) (oi := _) (v := ?v5) rfl (by kernel_rfl) (fun _ _ _ h => h) (by assumption) (Or.inl ⟨by kernel_rfl, ?y5⟩) ?r5
      case y5 => (intro w hSw; (try dsimp only at hSw); go_simp; all_goals with_reducible rfl)
      try simp only [Act.put, List.setIfInBounds_toArray, List.set_cons_zero, List.set_cons_succ]
      refine wpAnyL_take (i := 5) (oi := _) (v := ?v6) rfl (by kernel_rfl) (fun _ _ _ h => h) (by assumption) (Or.inl ⟨by kernel_rfl, ?y6⟩) ?r6
      case y6 => (intro w hSw; (try dsimp only at hSw); go_simp; all_goals with_reducible rfl)
      try simp only [Act.put, List.setIfInBounds_toArray, List.set_cons_zero, List.set_cons_succ]
      refine wpAnyL_take (i := 6) (oi := _) (v := ?v7) rfl (by kernel_rfl) (fun _ _ _ h => h) (by assumption) (Or.inl ⟨by kernel_rfl, ?y7⟩) ?r7
      case y7 => (intro w hSw; (try dsimp only at hSw); go_simp; all_goals with_reducible rfl)
      try simp only [Act.put, List.setIfInBounds_toArray, List.set_cons_zero, List.set_cons_succ]
      refine wpAnyL_take (i := 7) (oi := _) (v := ?v8) rfl (by kernel_rfl) (fun _ _ _ h => h) (by assumption) (Or.inl ⟨by kernel_rfl, ?y8⟩) ?r8
      case y8 => (intro w hSw; (try dsimp only at hSw); go_simp; all_goals with_reducible rfl)
      try simp only [Act.put, List.setIfInBounds_toArray, List.set_cons_zero, List.set_cons_succ]
      refine wpAnyL_take (i := 8) (oi := _) (v := ?v9) rfl (by kernel_rfl) (fun _ _ _ h => h) (by assumption) (Or.inl ⟨by kernel_rfl, ?y9⟩) ?r9
      case y9 => (intro w hSw; (try dsimp only at hSw); go_simp; all_goals with_reducible rfl)
      try simp only [Act.put, List.setIfInBounds_toArray, List.set_cons_zero, List.set_cons_succ]
      refine wpAnyL_take (i := 9) (oi := _) (v := ?v10) rfl (by kernel_rfl) (fun _ _ _ h => h) (by assumption) (Or.inl ⟨by kernel_rfl, ?y10⟩) ?r10
      case y10 => (intro w hSw; (try dsimp only at hSw); go_simp; all_goals with_reducible rfl)
      try simp only [Act.put, List.setIfInBounds_toArray, List.set_cons_zero, List.set_cons_succ]
      refine wpAnyL_take (i := 10) (oi := _) (v := ?v11) rfl (by kernel_rfl) (fun _ _ _ h => h) (by assumption) (Or.inl ⟨by kernel_rfl, ?y11⟩) ?r11
      case y11 => (intro w hSw; (try dsimp only at hSw); go_simp; all_goals with_reducible rfl)
      try simp only [Act.put, List.setIfInBounds_toArray, List.set_cons_zero, List.set_cons_succ]
      refine wpAnyL_take (i := 11) (oi := _) (v := ?v12) rfl (by kernel_rfl) (fun _ _ _ h => h) (by assumption) (Or.inl ⟨by kernel_rfl, ?y12⟩) ?r12
      case y12 => (intro w hSw; (try dsimp only at hSw); go_simp; all_goals with_reducible rfl)
      try simp only [Act.put, List.setIfInBounds_toArray, List.set_cons_zero, List.set_cons_succ]
      refine wpAnyL_take (i := 12) (oi := _) (v := ?v13) rfl (by kernel_rfl) (fun _ _ _ h => h) (by assumption) (Or.inl ⟨by kernel_rfl, ?y13⟩) ?r13
      case y13 => (intro w hSw; (try dsimp only at hSw); go_simp; all_goals with_reducible rfl)
      try simp only [Act.put, List.setIfInBounds_toArray, List.set_cons_zero, List.set_cons_succ]
      refine wpAnyL_take (i := 13) (oi := _) (v := ?v14) rfl (by kernel_rfl) (fun _ _ _ h => h) (by assumption) (Or.inl ⟨by kernel_rfl, ?y14⟩) ?r14
      case y14 => (intro w hSw; (try dsimp only at hSw); go_simp; all_goals with_reducible rfl)
      try simp only [Act.put, List.setIfInBounds_toArray, List.set_cons_zero, List.set_cons_succ]
      refine wpAnyL_last (j := 14) (o := _) (by kernel_rfl) rfl (by rfl) (by kernel_rfl) (fun K hK => ?_)
      go_simp
      (refine hK _ _ ?_; clear hK K)
      try simp only [Act.put, List.setIfInBounds_toArray, List.set_cons_zero, List.set_cons_succ]
      exact ⟨(KeepsOthers.setCell _ _ _).trans (KeepsOthers.drew _), (KeepX.set W i _).drew, (hKp2.out.trans (KeepX.set W i _)).drew, by rw [hmin.out]; exact RowAt.set hRow2.out i _⟩
    case done =>
      rintro D ys W hD rfl ⟨hKp, hRow⟩ hD2
      have hmk := run_makeMap_plain (P := Tryz.prog) W 88
      have hDl : D < W.heap.size := (Array.getElem?_eq_some_iff.1 hD2).1
      obtain ⟨M, hM⟩ : ∃ M, W.heap.size = M := ⟨_, rfl⟩
      obtain ⟨wM, hwM⟩ : ∃ w0, W.alloc (.map #[] 0) = w0 := ⟨_, rfl⟩
      have hMM : Hid (HeapAt Tryz.prog 2 wM M (65 * evSum l (o.take 0)) (heapAll l (o.take 0))) := Lib.hid (by
        rw [← hwM, ← hM]; exact (HeapAt.made _ _ W).mono (Nat.zero_le _))
      have hbM : Below W.heap.size W wM := by rw [← hwM]; exact (Below.refl _ _).alloc (Nat.le_refl _) _
      have hMl : M < wM.heap.size := hMM.out.lt
      have kW := fun (W1 : World) (h : MapF M wM W1) (B : Nat) (hB : B < M) => (h.block B (by omega) (by omega)).trans (hbM.block B (by omega))
      have HD := Lib.hid (fun W1 (h : MapF M wM W1) => (kW W1 h D (by omega)).trans hD2)
      have hsW : wX.heap.size ≤ W.heap.size := hKp.size
      have HB0 := Lib.hid (fun W1 (h : MapF M wM W1) => HWX.out.trans ((hKp.below (B := w.heap.size) (by omega) (by omega)).trans ((hbM.mono (by omega)).trans ((h.below (by omega)).mono (by omega)))))
      have HB1' := Lib.hid (fun W1 (h : MapF M wM W1) => HI.out W1 (hbX.trans ((hKp.below (B := w1.heap.size) (by omega) (Nat.le_refl _)).trans ((hbM.mono (by omega)).trans ((h.below (by omega)).mono (by omega))))))
      have HLS := Lib.hid (fun W1 (h : MapF M wM W1) (k : Nat) (hk : k ≤ o.length) => (World.cell?_of_block (w := W) (a := ⟨w1.heap.size, k, none⟩) (kW W1 h _ (by show w1.heap.size < _; omega))).trans (hRow.cell (foldR_least l o o.length 0 (by omega) k (Nat.zero_le _) hk)))
      have HLL := Lib.hid (fun W1 (h : MapF M wM W1) => (World.cell?_of_block (w := W) (a := ⟨w.heap.size, 0, none⟩) (kW W1 h _ (by show w.heap.size < _; omega))).trans ((hKp.cell (p := ⟨w.heap.size, 0, none⟩) (by show w.heap.size < _; omega) (by show w.heap.size ≠ _; omega)).trans xL))
      have HL5 := Lib.hid (fun W1 (h : MapF M wM W1) => (World.cell?_of_block (w := W) (a := ⟨w2.heap.size, 0, none⟩) (kW W1 h _ (by show w2.heap.size < _; omega))).trans ((hKp.cell (p := ⟨w2.heap.size, 0, none⟩) (by show w2.heap.size < _; omega) (by show w2.heap.size ≠ _; omega)).trans x5))
      have HMB : Hid (w.heap.size ≤ M ∧ w.heap.size ≤ D) := Lib.hid ⟨by omega, by omega⟩
      clear hbM kW hMl hKp hRow hD2 hbX xL x5 xS hRX HI HWX hsW hD hDl
      go_wp2_with fail
      clear hmk hwM hM
      go_loopw [49] (fun i wr => ∃ k : Nat, i = .int .i64 k ∧ k ≤ o.length ∧ Hid (res = failV 16 (scheckGo l (pvO o k) (o.drop k) (heapAll l (o.take k)))) ∧ Hid (HeapAt Tryz.prog 2 wr M (65 * evSum l (o.take k)) (heapAll l (o.take k))) ∧ Hid (MapF M wM wr)) (fun i _ => o.length - (intOf i).toNat)
      case atStart => exact ⟨0, rfl, Nat.zero_le _, HV, hMM, Lib.hid (MapF.refl _ _)⟩
      case round =>
        clear HV hMM
        obtain ⟨k, rfl, hk, hV, hH, hF⟩ := hrel
        by_cases hlt : k < o.length
        · obtain ⟨gb, goff, rfl, hgl, hgc⟩ := HB1'.out _ hF.out (by rintro rfl; simp at hlt)
          obtain ⟨i, hi, hil⟩ := HR.out _ (List.getElem_mem hlt)
          have e1 := hgc k _ (List.getElem?_eq_getElem hlt)
          rw [hi] at e1
          obtain ⟨b, off, rfl, hbl, hc⟩ := (HA.out _ (HB0.out _ hF.out)).row (by rintro rfl; simp at hil)
          obtain ⟨c0, c1, c2, c3, c4, c5, c6, c7⟩ := hc i _ (List.getElem?_eq_getElem hil)
          have hll := HLL.out _ hF.out
          have HGC : Hid (∀ W1, MapF M wM W1 → ∀ (q : Nat) (v : Int), o[q]? = some v → W1.cell? ⟨gb, goff + q, none⟩ = some (.int .i64 v)) := Lib.hid (fun W1 h => by
            obtain ⟨gb', goff', he, -, hcc⟩ := HB1'.out W1 h (by rintro rfl; simp at hlt)
            injection he with he
            injection he with he1 he2
            subst he1; subst he2
            exact hcc)
          have HCC : Hid (∀ W1, MapF M wM W1 → ∀ (q : Nat) (x : Att), l[q]? = some x → AttAt W1 b (off + q * 8) x) := Lib.hid (fun W1 h => by
            obtain ⟨b', off', he, -, hcc⟩ := (HA.out _ (HB0.out W1 h)).row (by rintro rfl; simp at hil)
            injection he with he
            injection he with he1 he2
            subst he1; subst he2
            exact hcc)
          have hev := Lib.hid (fun W1 (h : Below w.heap.size w W1) => (HA.out W1 h).evs _ (List.getElem_mem hil))
          have hxl := HTL.out _ (List.getElem_mem hil)
          have hel := Lib.hid (fun e he => (⟨(HOO.out _ (List.getElem_mem hil)).1.evs e he, (HOO.out _ (List.getElem_mem hil)).2 e he⟩ : e.Ok ∧ evB l[i].th e = true))
          have hgi : attN l o[k] = l[i] := by rw [hi]; exact attN_get hil
          have hst : Hid (res = failV 16 (if orderedB l (pvO o k) l[i] (o.drop (k + 1)) (heapAll l (o.take k)) then scheckGo l (some (i : Int)) (o.drop (k + 1)) (doV (heapAll l (o.take k)) l[i].evs) else some (i : Int))) := Lib.hid (by
            rw [hV.out, List.drop_eq_getElem_cons hlt, scheckGo, hgi, hi])
          have hpv : Hid (pvO o (k + 1) = some (i : Int)) := Lib.hid (by
            unfold pvO
            rw [if_neg (by omega), Nat.add_sub_cancel, List.getD_eq_getElem?_getD, List.getElem?_eq_getElem hlt, hi]; rfl)
          have hha : Hid (heapAll l (o.take (k + 1)) = doV (heapAll l (o.take k)) l[i].evs) := Lib.hid (by
            unfold heapAll
            rw [List.take_succ_eq_append_getElem hlt, List.foldl_append]
            show doV _ (attN l o[k]).evs = _
            rw [hgi])
          have hsu : Hid (evSum l (o.take (k + 1)) = evSum l (o.take k) + l[i].evs.length) := Lib.hid (by
            rw [List.take_succ_eq_append_getElem hlt, evSum_append]
            simp only [evSum, hgi]; omega)
          have hsl : Hid (65 * evSum l (o.take k) ≤ 10000000000) := Lib.hid (by
            have h1 := evSum_take l o k
            have h2 := hsum.out
            omega)
          have p1 : (i : Int) < (l.length : Int) := by omega
          have p3 : (0 : Int) ≤ (i : Int) := Int.natCast_nonneg _
          clear hc hgc hgi hV
          generalize l[i] = x at *
          obtain ⟨th, xkd, bg, en, ck, pl, wt, dA, dc, evs⟩ := x
          dsimp only at *
          obtain ⟨X, hX⟩ : ∃ X, wr.heap.size = X := ⟨_, rfl⟩
          obtain ⟨w0, hw0⟩ : ∃ w0, wr.alloc (.cells #[.int .i64 th, .int .u8 xkd, .int .i64 bg, .int .i64 en, .int .i64 ck, .int .i64 pl, .bool wt, .slice dA evs.length dc] 74 (0, 0)) = w0 := ⟨_, rfl⟩
          have hXl : X < w0.heap.size := by rw [← hw0, ← hX]; simp
          have hXM : X ≠ M := by have := hH.out.lt; omega
          have d2 : w0.cell? ⟨X, 2, none⟩ = some (.int .i64 bg) := by rw [← hw0, ← hX]; simp
          have d4 : w0.cell? ⟨X, 4, none⟩ = some (.int .i64 ck) := by rw [← hw0, ← hX]; simp
          have d5 : w0.cell? ⟨X, 5, none⟩ = some (.int .i64 pl) := by rw [← hw0, ← hX]; simp
          have d6 : w0.cell? ⟨X, 6, none⟩ = some (.bool wt) := by rw [← hw0, ← hX]; simp
          have d7 : w0.cell? ⟨X, 7, none⟩ = some (.slice dA evs.length dc) := by rw [← hw0, ← hX]; simp
          have hH0 : Hid (HeapAt Tryz.prog 2 w0 M (65 * evSum l (o.take k)) (heapAll l (o.take k))) := Lib.hid (by rw [← hw0]; exact hH.out.alloc _)
          have hF0 : Hid (MapF M wM w0) := Lib.hid (by rw [← hw0]; exact hF.out.alloc _)
          have hl5 := HL5.out _ hF0.out
          have hlk := HLS.out _ hF0.out (k + 1) (by omega)
          have HX := Lib.hid (fun W1 (h : MapF M w0 W1) => (⟨(h.cell (p := ⟨X, 5, none⟩) hXl hXM).trans d5, (h.cell (p := ⟨X, 6, none⟩) hXl hXM).trans d6, (h.cell (p := ⟨X, 7, none⟩) hXl hXM).trans d7⟩ : W1.cell? ⟨X, 5, none⟩ = some (.int .i64 pl) ∧ W1.cell? ⟨X, 6, none⟩ = some (.bool wt) ∧ W1.cell? ⟨X, 7, none⟩ = some (.slice dA evs.length dc)))
          have hle : Hid (∀ p r h, orderedB l p ⟨th, xkd, bg, en, ck, pl, wt, dA, dc, evs⟩ r h = (placedB ⟨th, xkd, bg, en, ck, pl, wt, dA, dc, evs⟩ && !decide (leastV l r < bg) && (!twinB l p ⟨th, xkd, bg, en, ck, pl, wt, dA, dc, evs⟩ && okV h evs))) := Lib.hid (fun p r h => rfl)
          obtain ⟨lv, hlv⟩ : ∃ lv, leastV l (o.drop (k + 1)) = lv := ⟨_, rfl⟩
          rw [hlv] at hlk
          have HLV := Lib.hid hlv
          have p6 : (0 : Int) ≤ (k : Int) + 1 := by omega
          have p8 : (k : Int) + 1 < (o.length : Int) + 1 := by omega
          have p9 : (k : Int) + 1 < ((o.length + 1 : Nat) : Int) := by omega
          have hwr : IntKind.i64.wrap ((k : Int) + 1) = (k : Int) + 1 := by rw [IntKind.wrap_i64]; omega
          clear hH hF hXl hXM hlv
          cases wt
          · by_cases hp : pl = ck
            · by_cases hb : lv < bg
              · have t1 : (pl != ck) = false := by simpa using hp
                have t1d : decide (pl = ck) = true := by simpa using hp
                have t1e : (!decide (pl = ck)) = false := by simpa using hp
                have HP := Lib.hid hp
                clear hp
                have t2 : decide (lv < bg) = true := by simpa using hb
                have F : Hid ((.tuple #[.int .i64 (i : Int), .int .i64 16] : Value) = .tuple #[.int .i64 res.1, .int .i64 res.2]) := Lib.hid (by
                  rw [hst.out, show orderedB l (pvO o k) ⟨th, xkd, bg, en, ck, pl, false, dA, dc, evs⟩ (o.drop (k + 1)) (heapAll l (o.take k)) = false by rw [hle.out, HLV.out, t2]; simp]; rfl)
                clear hst hpv hha hsu hH0
                go_wp2_with fail
                go_quiet (fail)
                go_wp2_with fail
                refine ⟨by simp, .inl ⟨_, _, rfl, run_takeDeferred (HD.out _ (hF0.out.drewN _)), ?_⟩⟩
                exact ⟨.tuple #[.int .i64 (i : Int), .int .i64 16], by simp [results, Tryz.results8, go_sem], congrArg _ F.out, below_put (HB0.out _ (hF0.out.drewN _)) HMB.out.2 _⟩
              · have t1 : (pl != ck) = false := by simpa using hp
                have t1d : decide (pl = ck) = true := by simpa using hp
                have t1e : (!decide (pl = ck)) = false := by simpa using hp
                have HP := Lib.hid hp
                clear hp
                have t2 : decide (lv < bg) = false := by simpa using hb
                have HTW : Hid (twinB l (pvO o k) ⟨th, xkd, bg, en, ck, pl, false, dA, dc, evs⟩ = false) := Lib.hid (by unfold twinB; cases pvO o k <;> simp)
                have HS := HX
                by_cases hk0 : k = 0
                · have t3 : decide (0 < k) = false := by simp; omega
                  have t4 : decide ((0 : Int) < (k : Int)) = false := by simp; omega
                  clear hk0
                  have hto : Hid (orderedB l (pvO o k) ⟨th, xkd, bg, en, ck, pl, false, dA, dc, evs⟩ (o.drop (k + 1)) (heapAll l (o.take k)) = okV (heapAll l (o.take k)) evs) := Lib.hid (by rw [hle.out, HLV.out, t2, HTW.out]; simp [placedB, HP.out])
                  cases hok : okV (heapAll l (o.take k)) evs
                  · have HOKV := Lib.hid hok
                    have F : Hid ((.tuple #[.int .i64 (i : Int), .int .i64 16] : Value) = .tuple #[.int .i64 res.1, .int .i64 res.2]) := Lib.hid (by rw [hst.out, hto.out, hok]; rfl)
                    clear hok hto
                    go_wp2_with fail
                    go_quiet (fail)
                    go_wp2_with fail
                    refine wp_region_Ln (l := 37) (S := (fun W1 => W1.cell? ⟨X, 5, none⟩ = some (.int .i64 pl) ∧ W1.cell? ⟨X, 6, none⟩ = some (.bool false) ∧ W1.cell? ⟨X, 7, none⟩ = some (.slice dA evs.length dc))) (by kernel_rfl) ?_ (fun hHeld => ?_)
                    · ((try dsimp only); (exact HS.out _ (((MapF.refl M w0).drewN _).drew)))
                    refine wpAnyL_take (i := 0) (oi := _) (v := ?v16) rfl (by kernel_rfl) (fun _ _ _ h => h) (by assumption) (Or.inl ⟨by kernel_rfl, ?y16⟩) ?r16
                    case y16 => (intro w hSw; (try dsimp only at hSw); go_simp; all_goals with_reducible rfl)
                    try simp only [Act.put, List.setIfInBounds_toArray, List.set_cons_zero, List.set_cons_succ]
                    refine wpAnyL_take (i := 1) (oi := _) (v := ?v17) rfl (by kernel_rfl) (fun _ _ _ h => h) (by assumption) (Or.inl ⟨by kernel_rfl, ?y17⟩) ?r17
                    case y17 => (intro w hSw; (try dsimp only at hSw); go_simp; all_goals with_reducible rfl)
                    try simp only [Act.put, List.setIfInBounds_toArray, List.set_cons_zero, List.set_cons_succ]
                    refine wpAnyL_take (i := 2) (oi := _) (v := ?v18) rfl (by kernel_rfl) (fun _ _ _ h => h) (by assumption) (Or.inl ⟨by kernel_rfl, ?y18⟩) ?r18
                    case y18 => (intro w hSw; (try dsimp only at hSw); go_simp; all_goals with_reducible rfl)
                    try simp only [Act.put, List.setIfInBounds_toArray, List.set_cons_zero, List.set_cons_succ]
                    refine wpAnyL_take (i := 3) (oi := _) (v := undef) rfl (by kernel_rfl) (fun _ _ _ h => h) (by assumption) (Or.inr ⟨by kernel_rfl, rfl⟩) ?_
                    try simp only [Act.put, List.setIfInBounds_toArray, List.set_cons_zero, List.set_cons_succ]
                    refine wpAnyL_take (i := 4) (oi := _) (v := undef) rfl (by kernel_rfl) (fun _ _ _ h => h) (by assumption) (Or.inr ⟨by kernel_rfl, rfl⟩) ?_
                    try simp only [Act.put, List.setIfInBounds_toArray, List.set_cons_zero, List.set_cons_succ]
                    refine wpAnyL_take (i := 5) (oi := _) (v := ?v21) rfl (by kernel_rfl) (fun _ _ _ h => h) (by assumption) (Or.inl ⟨by kernel_rfl, ?y21⟩) ?r21
                    case y21 => (intro w hSw; (try dsimp only at hSw); go_simp; all_goals with_reducible rfl)
                    try simp only [Act.put, List.setIfInBounds_toArray, List.set_cons_zero, List.set_cons_succ]
                    refine wpAnyL_take (i := 6) (oi := _) (v := ?v22) rfl (by kernel_rfl) (fun _ _ _ h => h) (by assumption) (Or.inl ⟨by kernel_rfl, ?y22⟩) ?r22
                    case y22 => (intro w hSw; (try dsimp only at hSw); go_simp; all_goals with_reducible rfl)
                    try simp only [Act.put, List.setIfInBounds_toArray, List.set_cons_zero, List.set_cons_succ]
                    refine wpAnyL_take (i := 7) (oi := _) (v := undef) rfl (by kernel_rfl) (fun _ _ _ h => h) (by assumption) (Or.inr ⟨by kernel_rfl, rfl⟩) ?_
                    try simp only [Act.put, List.setIfInBounds_toArray, List.set_cons_zero, List.set_cons_succ]
                    refine wpAnyL_take (i := 8) (oi := _) (v := undef) rfl (by kernel_rfl) (fun _ _ _ h => h) (by assumption) (Or.inr ⟨by kernel_rfl, rfl⟩) ?_
                    try simp only [Act.put, List.setIfInBounds_toArray, List.set_cons_zero, List.set_cons_succ]
                    refine wpAnyL_take (i := 9) (oi := _) (v := undef) rfl (by kernel_rfl) (fun _ _ _ h => h) (by assumption) (Or.inr ⟨by kernel_rfl, rfl⟩) ?_
                    try simp only [Act.put, List.setIfInBounds_toArray, List.set_cons_zero, List.set_cons_succ]
                    refine wpAnyL_take (i := 10) (oi := _) (v := undef) rfl (by kernel_rfl) (fun _ _ _ h => h) (by assumption) (Or.inr ⟨by kernel_rfl, rfl⟩) ?_
                    try simp only [Act.put, List.setIfInBounds_toArray, List.set_cons_zero, List.set_cons_succ]
                    refine wpAnyL_take (i := 11) (oi := _) (v := undef) rfl (by kernel_rfl) (fun _ _ _ h => h) (by assumption) (Or.inr ⟨by kernel_rfl, rfl⟩) ?_
                    try simp only [Act.put, List.setIfInBounds_toArray, List.set_cons_zero, List.set_cons_succ]
                    refine wpAnyL_take (i := 12) (oi := _) (v := undef) rfl (by kernel_rfl) (fun _ _ _ h => h) (by assumption) (Or.inr ⟨by kernel_rfl, rfl⟩) ?_
                    try simp only [Act.put, List.setIfInBounds_toArray, List.set_cons_zero, List.set_cons_succ]
                    refine wpAnyL_take (i := 13) (oi := _) (v := undef) rfl (by kernel_rfl) (fun _ _ _ h => h) (by assumption) (Or.inr ⟨by kernel_rfl, rfl⟩) ?_
                    try simp only [Act.put, List.setIfInBounds_toArray, List.set_cons_zero, List.set_cons_succ]
                    refine wpAnyL_take (i := 14) (oi := _) (v := undef) rfl (by kernel_rfl) (fun _ _ _ h => h) (by assumption) (Or.inr ⟨by kernel_rfl, rfl⟩) ?_
                    try simp only [Act.put, List.setIfInBounds_toArray, List.set_cons_zero, List.set_cons_succ]
                    refine wpAnyL_take (i := 15) (oi := _) (v := undef) rfl (by kernel_rfl) (fun _ _ _ h => h) (by assumption) (Or.inr ⟨by kernel_rfl, rfl⟩) ?_
                    try simp only [Act.put, List.setIfInBounds_toArray, List.set_cons_zero, List.set_cons_succ]
                    refine wpAnyL_take (i := 16) (oi := _) (v := ?v32) rfl (by kernel_rfl) (fun _ _ _ h => h) (by assumption) (Or.inl ⟨by kernel_rfl, ?y32⟩) ?r32
                    case y32 => (intro w hSw; (try dsimp only at hSw); go_simp; all_goals with_reducible rfl)
                    try simp only [Act.put, List.setIfInBounds_toArray, List.set_cons_zero, List.set_cons_succ]
                    refine wpAnyL_take (i := 17) (oi := _) (v := ?v33) rfl (by kernel_rfl) (fun _ _ _ h => h) (by assumption) (Or.inl ⟨by kernel_rfl, ?y33⟩) ?r33
                    case y33 => (intro w hSw; (try dsimp only at hSw); go_simp; all_goals with_reducible rfl)
                    try simp only [Act.put, List.setIfInBounds_toArray, List.set_cons_zero, List.set_cons_succ]
                    refine wpAnyL_take (i := 18) (oi := _) (v := undef) rfl (by kernel_rfl) (fun _ _ _ h => h) (by assumption) (Or.inr ⟨by kernel_rfl, rfl⟩) ?_
                    try simp only [Act.put, List.setIfInBounds_toArray, List.set_cons_zero, List.set_cons_succ]
                    refine wpAnyL_take (i := 19) (oi := _) (v := undef) rfl (by kernel_rfl) (fun _ _ _ h => h) (by assumption) (Or.inr ⟨by kernel_rfl, rfl⟩) ?_
                    try simp only [Act.put, List.setIfInBounds_toArray, List.set_cons_zero, List.set_cons_succ]
                    refine wpAnyL_take (i := 20) (oi := _) (v := undef) rfl (by kernel_rfl) (fun _ _ _ h => h) (by assumption) (Or.inr ⟨by kernel_rfl, rfl⟩) ?_
                    try simp only [Act.put, List.setIfInBounds_toArray, List.set_cons_zero, List.set_cons_succ]
                    refine wpAnyL_take (i := 21) (oi := _) (v := undef) rfl (by kernel_rfl) (fun _ _ _ h => h) (by assumption) (Or.inr ⟨by kernel_rfl, rfl⟩) ?_
                    try simp only [Act.put, List.setIfInBounds_toArray, List.set_cons_zero, List.set_cons_succ]
                    refine wpAnyL_take (i := 22) (oi := _) (v := undef) rfl (by kernel_rfl) (fun _ _ _ h => h) (by assumption) (Or.inr ⟨by kernel_rfl, rfl⟩) ?_
                    try simp only [Act.put, List.setIfInBounds_toArray, List.set_cons_zero, List.set_cons_succ]
                    refine wpAnyL_take (i := 23) (oi := _) (v := undef) rfl (by kernel_rfl) (fun _ _ _ h => h) (by assumption) (Or.inr ⟨by kernel_rfl, rfl⟩) ?_
                    try simp only [Act.put, List.setIfInBounds_toArray, List.set_cons_zero, List.set_cons_succ]
                    refine wpAnyL_take (i := 24) (oi := _) (v := undef) rfl (by kernel_rfl) (fun _ _ _ h => h) (by assumption) (Or.inr ⟨by kernel_rfl, rfl⟩) ?_
                    try simp only [Act.put, List.setIfInBounds_toArray, List.set_cons_zero, List.set_cons_succ]
                    refine wpAnyL_take (i := 25) (oi := _) (v := undef) rfl (by kernel_rfl) (fun _ _ _ h => h) (by assumption) (Or.inr ⟨by kernel_rfl, rfl⟩) ?_
                    try simp only [Act.put, List.setIfInBounds_toArray, List.set_cons_zero, List.set_cons_succ]
                    refine wpAnyL_take (i := 26) (oi := _) (v := undef) rfl (by kernel_rfl) (fun _ _ _ h => h) (by assumption) (Or.inr ⟨by kernel_rfl, rfl⟩) ?_
                    try simp only [Act.put, List.setIfInBounds_toArray, List.set_cons_zero, List.set_cons_succ]
                    refine wpAnyL_take (i := 27) (oi := _) (v := undef) rfl (by kernel_rfl) (fun _ _ _ h => h) (by assumption) (Or.inr ⟨by kernel_rfl, rfl⟩) ?_
                    try simp only [Act.put, List.setIfInBounds_toArray, List.set_cons_zero, List.set_cons_succ]
                    refine wpAnyL_take (i := 28) (oi := _) (v := undef) rfl (by kernel_rfl) (fun _ _ _ h => h) (by assumption) (Or.inr ⟨by kernel_rfl, rfl⟩) ?_
                    try simp only [Act.put, List.setIfInBounds_toArray, List.set_cons_zero, List.set_cons_succ]
                    refine wpAnyL_take (i := 29) (oi := _) (v := undef) rfl (by kernel_rfl) (fun _ _ _ h => h) (by assumption) (Or.inr ⟨by kernel_rfl, rfl⟩) ?_
                    try simp only [Act.put, List.setIfInBounds_toArray, List.set_cons_zero, List.set_cons_succ]
                    refine wpAnyL_take (i := 30) (oi := _) (v := ?v46) rfl (by kernel_rfl) (fun _ _ _ h => h) (by assumption) (Or.inl ⟨by kernel_rfl, ?y46⟩) ?r46
                    case y46 => (intro w hSw; (try dsimp only at hSw); go_simp; all_goals with_reducible rfl)
                    try simp only [Act.put, List.setIfInBounds_toArray, List.set_cons_zero, List.set_cons_succ]
                    refine wpAnyL_take (i := 31) (oi := _) (v := ?v47) rfl (by kernel_rfl) (fun _ _ _ h => h) (by assumption) (Or.inl ⟨by kernel_rfl, ?y47⟩) ?r47
                    case y47 => (intro w hSw; (try dsimp only at hSw); go_simp; all_goals with_reducible rfl)
                    try simp only [Act.put, List.setIfInBounds_toArray, List.set_cons_zero, List.set_cons_succ]
                    refine wpAnyL_take (i := 32) (oi := _) (v := ?v48) rfl (by kernel_rfl) (fun _ _ _ h => h) (by assumption) (Or.inl ⟨by kernel_rfl, ?y48⟩) ?r48
                    case y48 => (intro w hSw; (try dsimp only at hSw); go_simp; all_goals with_reducible rfl)
                    try simp only [Act.put, List.setIfInBounds_toArray, List.set_cons_zero, List.set_cons_succ]
                    refine wpAnyL_take (i := 33) (oi := _) (v := ?v49) rfl (by kernel_rfl) (fun _ _ _ h => h) (by assumption) (Or.inl ⟨by kernel_rfl, ?y49⟩) ?r49
                    case y49 => (intro w hSw; (try dsimp only at hSw); go_simp; all_goals with_reducible rfl)
                    try simp only [Act.put, List.setIfInBounds_toArray, List.set_cons_zero, List.set_cons_succ]
                    refine wpAnyL_take (i := 34) (oi := _) (v := ?v50) rfl (by kernel_rfl) (fun _ _ _ h => h) (by assumption) (Or.inl ⟨by kernel_rfl, ?y50⟩) ?r50
                    case y50 => (intro w hSw; (try dsimp only at hSw); go_simp; all_goals with_reducible rfl)
                    try simp only [Act.put, List.setIfInBounds_toArray, List.set_cons_zero, List.set_cons_succ]
                    refine wpAnyL_step (j := 35) (o := _) (by kernel_rfl) rfl (fun K hK => ?_)
                    (go_simp; go_at_call 31; refine (do_any M (65 * evSum l (o.take k)) w.heap.size dc (heapAll l (o.take k)) dA evs th hxl hsl.out hel.out _ (hH0.out.drewN _).drew (hev.out _ (HB0.out _ (hF0.out.drewN _).drew)) HMB.out.1).mono ?_; rintro e w4 ⟨rfl, hH4, hM4⟩; rw [HOKV.out])
                    refine hK _ _ ?_ (fun hHeld => ?_)
                    · ((try dsimp only); (exact HS.out _ ((((MapF.refl M w0).drewN _).drew).trans hM4)))
                    clear hK K
                    try simp only [Act.put, List.setIfInBounds_toArray, List.set_cons_zero, List.set_cons_succ]
                    refine wpAnyL_take (i := 36) (oi := _) (v := ?v52) rfl (by kernel_rfl) (fun _ _ _ h => h) (by assumption) (Or.inl ⟨by kernel_rfl, ?y52⟩) ?r52
                    case y52 => (intro w hSw; (try dsimp only at hSw); go_simp; all_goals with_reducible rfl)
                    try simp only [Act.put, List.setIfInBounds_toArray, List.set_cons_zero, List.set_cons_succ]
                    refine wpAnyL_last (j := 37) (o := _) (by kernel_rfl) rfl (by rfl) (by kernel_rfl) (fun K hK => ?_)
                    go_simp
                    (refine hK _ _ ?_; clear hK K)
                    try simp only [Act.put, List.setIfInBounds_toArray, List.set_cons_zero, List.set_cons_succ]
                    unfold onlyN
                    have hFE := Lib.hid ((hF0.out.drewN _).drew.trans hM4)
                    clear hH4 hM4 hHeld
                    go_wp2_with fail
                    refine ⟨by simp, .inl ⟨_, _, rfl, run_takeDeferred (HD.out _ hFE.out), ?_⟩⟩
                    exact ⟨.tuple #[.int .i64 (i : Int), .int .i64 16], by simp [results, Tryz.results8, go_sem], congrArg _ F.out, below_put (HB0.out _ hFE.out) HMB.out.2 _⟩
                  · have HOKV := Lib.hid hok
                    have F : Hid (res = failV 16 (scheckGo l (pvO o (k + 1)) (o.drop (k + 1)) (heapAll l (o.take (k + 1))))) := Lib.hid (by rw [hst.out, hto.out, hok, hpv.out, hha.out]; rfl)
                    clear hok hto
                    go_wp2_with fail
                    go_quiet (fail)
                    go_wp2_with fail
                    refine wp_region_Ln (l := 37) (S := (fun W1 => W1.cell? ⟨X, 5, none⟩ = some (.int .i64 pl) ∧ W1.cell? ⟨X, 6, none⟩ = some (.bool false) ∧ W1.cell? ⟨X, 7, none⟩ = some (.slice dA evs.length dc))) (by kernel_rfl) ?_ (fun hHeld => ?_)
                    · ((try dsimp only); (exact HS.out _ (((MapF.refl M w0).drewN _).drew)))
                    refine wpAnyL_take (i := 0) (oi := _) (v := ?v54) rfl (by kernel_rfl) (fun _ _ _ h => h) (by assumption) (Or.inl ⟨by kernel_rfl, ?y54⟩) ?r54
                    case y54 => (intro w hSw; (try dsimp only at hSw); go_simp; all_goals with_reducible rfl)
                    try simp only [Act.put, List.setIfInBounds_toArray, List.set_cons_zero, List.set_cons_succ]
                    refine wpAnyL_take (i := 1) (oi := _) (v := ?v55) rfl (by kernel_rfl) (fun _ _ _ h => h) (by assumption) (Or.inl ⟨by kernel_rfl, ?y55⟩) ?r55
                    case y55 => (intro w hSw; (try dsimp only at hSw); go_simp; all_goals with_reducible rfl)
                    try simp only [Act.put, List.setIfInBounds_toArray, List.set_cons_zero, List.set_cons_succ]
                    refine wpAnyL_take (i := 2) (oi := _) (v := ?v56) rfl (by kernel_rfl) (fun _ _ _ h => h) (by assumption) (Or.inl ⟨by kernel_rfl, ?y56⟩) ?r56
                    case y56 => (intro w hSw; (try dsimp only at hSw); go_simp; all_goals with_reducible rfl)
                    try simp only [Act.put, List.setIfInBounds_toArray, List.set_cons_zero, List.set_cons_succ]
                    refine wpAnyL_take (i := 3) (oi := _) (v := undef) rfl (by kernel_rfl) (fun _ _ _ h => h) (by assumption) (Or.inr ⟨by kernel_rfl, rfl⟩) ?_
                    try simp only [Act.put, List.setIfInBounds_toArray, List.set_cons_zero, List.set_cons_succ]
                    refine wpAnyL_take (i := 4) (oi := _) (v := undef) rfl (by kernel_rfl) (fun _ _ _ h => h) (by assumption) (Or.inr ⟨by kernel_rfl, rfl⟩) ?_
                    try simp only [Act.put, List.setIfInBounds_toArray, List.set_cons_zero, List.set_cons_succ]
                    refine wpAnyL_take (i := 5) (oi := _) (v := ?v59) rfl (by kernel_rfl) (fun _ _ _ h => h) (by assumption) (Or.inl ⟨by kernel_rfl, ?y59⟩) ?r59
                    case y59 => (intro w hSw; (try dsimp only at hSw); go_simp; all_goals with_reducible rfl)
                    try simp only [Act.put, List.setIfInBounds_toArray, List.set_cons_zero, List.set_cons_succ]
                    refine wpAnyL_take (i := 6) (oi := _) (v := ?v60) rfl (by kernel_rfl) (fun _ _ _ h => h) (by assumption) (Or.inl ⟨by kernel_rfl, ?y60⟩) ?r60
                    case y60 => (intro w hSw; (try dsimp only at hSw); go_simp; all_goals with_reducible rfl)
                    try simp only [Act.put, List.setIfInBounds_toArray, List.set_cons_zero, List.set_cons_succ]
                    refine wpAnyL_take (i := 7) (oi := _) (v := undef) rfl (by kernel_rfl) (fun _ _ _ h => h) (by assumption) (Or.inr ⟨by kernel_rfl, rfl⟩) ?_
                    try simp only [Act.put, List.setIfInBounds_toArray, List.set_cons_zero, List.set_cons_succ]
                    refine wpAnyL_take (i := 8) (oi := _) (v := undef) rfl (by kernel_rfl) (fun _ _ _ h => h) (by assumption) (Or.inr ⟨by kernel_rfl, rfl⟩) ?_
                    try simp only [Act.put, List.setIfInBounds_toArray, List.set_cons_zero, List.set_cons_succ]
                    refine wpAnyL_take (i := 9) (oi := _) (v := undef) rfl (by kernel_rfl) (fun _ _ _ h => h) (by assumption) (Or.inr ⟨by kernel_rfl, rfl⟩) ?_
                    try simp only [Act.put, List.setIfInBounds_toArray, List.set_cons_zero, List.set_cons_succ]
                    refine wpAnyL_take (i := 10) (oi := _) (v := undef) rfl (by kernel_rfl) (fun _ _ _ h => h) (by assumption) (Or.inr ⟨by kernel_rfl, rfl⟩) ?_
                    try simp only [Act.put, List.setIfInBounds_toArray, List.set_cons_zero, List.set_cons_succ]
                    refine wpAnyL_take (i := 11) (oi := _) (v := undef) rfl (by kernel_rfl) (fun _ _ _ h => h) (by assumption) (Or.inr ⟨by kernel_rfl, rfl⟩) ?_
                    try simp only [Act.put, List.setIfInBounds_toArray, List.set_cons_zero, List.set_cons_succ]
                    refine wpAnyL_take (i := 12) (oi := _) (v := undef) rfl (by kernel_rfl) (fun _ _ _ h => h) (by assumption) (Or.inr ⟨by kernel_rfl, rfl⟩) ?_
                    try simp only [Act.put, List.setIfInBounds_toArray, List.set_cons_zero, List.set_cons_succ]
                    refine wpAnyL_take (i := 13) (oi := _) (v := undef) rfl (by kernel_rfl) (fun _ _ _ h => h) (by assumption) (Or.inr ⟨by kernel_rfl, rfl⟩) ?_
                    try simp only [Act.put, List.setIfInBounds_toArray, List.set_cons_zero, List.set_cons_succ]
                    refine wpAnyL_take (i := 14) (oi := _) (v := undef) rfl (by kernel_rfl) (fun _ _ _ h => h) (by assumption) (Or.inr ⟨by kernel_rfl, rfl⟩) ?_
                    try simp only [Act.put, List.setIfInBounds_toArray, List.set_cons_zero, List.set_cons_succ]
                    refine wpAnyL_take (i := 15) (oi := _) (v := undef) rfl (by kernel_rfl) (fun _ _ _ h => h) (by assumption) (Or.inr ⟨by kernel_rfl, rfl⟩) ?_
                    try simp only [Act.put, List.setIfInBounds_toArray, List.set_cons_zero, List.set_cons_succ]
                    refine wpAnyL_take (i := 16) (oi := _) (v := ?v70) rfl (by kernel_rfl) (fun _ _ _ h => h) (by assumption) (Or.inl ⟨by kernel_rfl, ?y70⟩) ?r70
                    case y70 => (intro w hSw; (try dsimp only at hSw); go_simp; all_goals with_reducible rfl)
                    try simp only [Act.put, List.setIfInBounds_toArray, List.set_cons_zero, List.set_cons_succ]
                    refine wpAnyL_take (i := 17) (oi := _) (v := ?v71) rfl (by kernel_rfl) (fun _ _ _ h => h) (by assumption) (Or.inl ⟨by kernel_rfl, ?y71⟩) ?r71
                    case y71 => (intro w hSw; (try dsimp only at hSw); go_simp; all_goals with_reducible rfl)
                    try simp only [Act.put, List.setIfInBounds_toArray, List.set_cons_zero, List.set_cons_succ]
                    refine wpAnyL_take (i := 18) (oi := _) (v := undef) rfl (by kernel_rfl) (fun _ _ _ h => h) (by assumption) (Or.inr ⟨by kernel_rfl, rfl⟩) ?_
                    try simp only [Act.put, List.setIfInBounds_toArray, List.set_cons_zero, List.set_cons_succ]
                    refine wpAnyL_take (i := 19) (oi := _) (v := undef) rfl (by kernel_rfl) (fun _ _ _ h => h) (by assumption) (Or.inr ⟨by kernel_rfl, rfl⟩) ?_
                    try simp only [Act.put, List.setIfInBounds_toArray, List.set_cons_zero, List.set_cons_succ]
                    refine wpAnyL_take (i := 20) (oi := _) (v := undef) rfl (by kernel_rfl) (fun _ _ _ h => h) (by assumption) (Or.inr ⟨by kernel_rfl, rfl⟩) ?_
                    try simp only [Act.put, List.setIfInBounds_toArray, List.set_cons_zero, List.set_cons_succ]
                    refine wpAnyL_take (i := 21) (oi := _) (v := undef) rfl (by kernel_rfl) (fun _ _ _ h => h) (by assumption) (Or.inr ⟨by kernel_rfl, rfl⟩) ?_
                    try simp only [Act.put, List.setIfInBounds_toArray, List.set_cons_zero, List.set_cons_succ]
                    refine wpAnyL_take (i := 22) (oi := _) (v := undef) rfl (by kernel_rfl) (fun _ _ _ h => h) (by assumption) (Or.inr ⟨by kernel_rfl, rfl⟩) ?_
                    try simp only [Act.put, List.setIfInBounds_toArray, List.set_cons_zero, List.set_cons_succ]
                    refine wpAnyL_take (i := 23) (oi := _) (v := undef) rfl (by kernel_rfl) (fun _ _ _ h => h) (by assumption) (Or.inr ⟨by kernel_rfl, rfl⟩) ?_
                    try simp only [Act.put, List.setIfInBounds_toArray, List.set_cons_zero, List.set_cons_succ]
                    refine wpAnyL_take (i := 24) (oi := _) (v := undef) rfl (by kernel_rfl) (fun _ _ _ h => h) (by assumption) (Or.inr ⟨by kernel_rfl, rfl⟩) ?_
                    try simp only [Act.put, List.setIfInBounds_toArray, List.set_cons_zero, List.set_cons_succ]
                    refine wpAnyL_take (i := 25) (oi := _) (v := undef) rfl (by kernel_rfl) (fun _ _ _ h => h) (by assumption) (Or.inr ⟨by kernel_rfl, rfl⟩) ?_
                    try simp only [Act.put, List.setIfInBounds_toArray, List.set_cons_zero, List.set_cons_succ]
                    refine wpAnyL_take (i := 26) (oi := _) (v := undef) rfl (by kernel_rfl) (fun _ _ _ h => h) (by assumption) (Or.inr ⟨by kernel_rfl, rfl⟩) ?_
                    try simp only [Act.put, List.setIfInBounds_toArray, List.set_cons_zero, List.set_cons_succ]
                    refine wpAnyL_take (i := 27) (oi := _) (v := undef) rfl (by kernel_rfl) (fun _ _ _ h => h) (by assumption) (Or.inr ⟨by kernel_rfl, rfl⟩) ?_
                    try simp only [Act.put, List.setIfInBounds_toArray, List.set_cons_zero, List.set_cons_succ]
                    refine wpAnyL_take (i := 28) (oi := _) (v := undef) rfl (by kernel_rfl) (fun _ _ _ h => h) (by assumption) (Or.inr ⟨by kernel_rfl, rfl⟩) ?_
                    try simp only [Act.put, List.setIfInBounds_toArray, List.set_cons_zero, List.set_cons_succ]
                    refine wpAnyL_take (i := 29) (oi := _) (v := undef) rfl (by kernel_rfl) (fun _ _ _ h => h) (by assumption) (Or.inr ⟨by kernel_rfl, rfl⟩) ?_
                    try simp only [Act.put, List.setIfInBounds_toArray, List.set_cons_zero, List.set_cons_succ]
                    refine wpAnyL_take (i := 30) (oi := _) (v := ?v84) rfl (by kernel_rfl) (fun _ _ _ h => h) (by assumption) (Or.inl ⟨by kernel_rfl, ?y84⟩) ?r84
                    case y84 => (intro w hSw; (try dsimp only at hSw); go_simp; all_goals with_reducible rfl)
                    try simp only [Act.put, List.setIfInBounds_toArray, List.set_cons_zero, List.set_cons_succ]
                    refine wpAnyL_take (i := 31) (oi := _) (v := ?v85) rfl (by kernel_rfl) (fun _ _ _ h => h) (by assumption) (Or.inl ⟨by kernel_rfl, ?y85⟩) ?r85
                    case y85 => (intro w hSw; (try dsimp only at hSw); go_simp; all_goals with_reducible rfl)
                    try simp only [Act.put, List.setIfInBounds_toArray, List.set_cons_zero, List.set_cons_succ]
                    refine wpAnyL_take (i := 32) (oi := _) (v := ?v86) rfl (by kernel_rfl) (fun _ _ _ h => h) (by assumption) (Or.inl ⟨by kernel_rfl, ?y86⟩) ?r86
                    case y86 => (intro w hSw; (try dsimp only at hSw); go_simp; all_goals with_reducible rfl)
                    try simp only [Act.put, List.setIfInBounds_toArray, List.set_cons_zero, List.set_cons_succ]
                    refine wpAnyL_take (i := 33) (oi := _) (v := ?v87) rfl (by kernel_rfl) (fun _ _ _ h => h) (by assumption) (Or.inl ⟨by kernel_rfl, ?y87⟩) ?r87
                    case y87 => (intro w hSw; (try dsimp only at hSw); go_simp; all_goals with_reducible rfl)
                    try simp only [Act.put, List.setIfInBounds_toArray, List.set_cons_zero, List.set_cons_succ]
                    refine wpAnyL_take (i := 34) (oi := _) (v := ?v88) rfl (by kernel_rfl) (fun _ _ _ h => h) (by assumption) (Or.inl ⟨by kernel_rfl, ?y88⟩) ?r88
                    case y88 => (intro w hSw; (try dsimp only at hSw); go_simp; all_goals with_reducible rfl)
                    try simp only [Act.put, List.setIfInBounds_toArray, List.set_cons_zero, List.set_cons_succ]
                    refine wpAnyL_step (j := 35) (o := _) (by kernel_rfl) rfl (fun K hK => ?_)
                    (go_simp; go_at_call 31; refine (do_any M (65 * evSum l (o.take k)) w.heap.size dc (heapAll l (o.take k)) dA evs th hxl hsl.out hel.out _ (hH0.out.drewN _).drew (hev.out _ (HB0.out _ (hF0.out.drewN _).drew)) HMB.out.1).mono ?_; rintro e w4 ⟨rfl, hH4, hM4⟩; rw [HOKV.out])
                    refine hK _ _ ?_ (fun hHeld => ?_)
                    · ((try dsimp only); (exact HS.out _ ((((MapF.refl M w0).drewN _).drew).trans hM4)))
                    clear hK K
                    try simp only [Act.put, List.setIfInBounds_toArray, List.set_cons_zero, List.set_cons_succ]
                    refine wpAnyL_take (i := 36) (oi := _) (v := ?v90) rfl (by kernel_rfl) (fun _ _ _ h => h) (by assumption) (Or.inl ⟨by kernel_rfl, ?y90⟩) ?r90
                    case y90 => (intro w hSw; (try dsimp only at hSw); go_simp; all_goals with_reducible rfl)
                    try simp only [Act.put, List.setIfInBounds_toArray, List.set_cons_zero, List.set_cons_succ]
                    refine wpAnyL_last (j := 37) (o := _) (by kernel_rfl) rfl (by rfl) (by kernel_rfl) (fun K hK => ?_)
                    go_simp
                    (refine hK _ _ ?_; clear hK K)
                    try simp only [Act.put, List.setIfInBounds_toArray, List.set_cons_zero, List.set_cons_succ]
                    unfold onlyN
                    have hFE := Lib.hid ((hF0.out.drewN _).drew.trans hM4)
                    have hHE : Hid (HeapAt Tryz.prog 2 w4 M (65 * evSum l (o.take (k + 1))) (heapAll l (o.take (k + 1)))) := Lib.hid (by rw [hha.out]; exact hH4.mono (by rw [hsu.out]; omega))
                    clear hH4 hM4 hHeld
                    go_wp2_with fail
                    go_roundw
                    case rel => exact ⟨k + 1, by go_num, by omega, F, hHE, hFE⟩
                    case measure => simp [intOf]; omega
                · have t3 : decide (0 < k) = true := by simp; omega
                  have t4 : decide ((0 : Int) < (k : Int)) = true := by simp; omega
                  clear hk0
                  have hto : Hid (orderedB l (pvO o k) ⟨th, xkd, bg, en, ck, pl, false, dA, dc, evs⟩ (o.drop (k + 1)) (heapAll l (o.take k)) = okV (heapAll l (o.take k)) evs) := Lib.hid (by rw [hle.out, HLV.out, t2, HTW.out]; simp [placedB, HP.out])
                  cases hok : okV (heapAll l (o.take k)) evs
                  · have HOKV := Lib.hid hok
                    have F : Hid ((.tuple #[.int .i64 (i : Int), .int .i64 16] : Value) = .tuple #[.int .i64 res.1, .int .i64 res.2]) := Lib.hid (by rw [hst.out, hto.out, hok]; rfl)
                    clear hok hto
                    go_wp2_with fail
                    go_quiet (fail)
                    go_wp2_with fail
                    refine wp_region_Ln (l := 37) (S := (fun W1 => W1.cell? ⟨X, 5, none⟩ = some (.int .i64 pl) ∧ W1.cell? ⟨X, 6, none⟩ = some (.bool false) ∧ W1.cell? ⟨X, 7, none⟩ = some (.slice dA evs.length dc))) (by kernel_rfl) ?_ (fun hHeld => ?_)
                    · ((try dsimp only); (exact HS.out _ (((MapF.refl M w0).drewN _).drew)))
                    refine wpAnyL_take (i := 0) (oi := _) (v := ?v92) rfl (by kernel_rfl) (fun _ _ _ h => h) (by assumption) (Or.inl ⟨by kernel_rfl, ?y92⟩) ?r92
                    case y92 => (intro w hSw; (try dsimp only at hSw); go_simp; all_goals with_reducible rfl)
                    try simp only [Act.put, List.setIfInBounds_toArray, List.set_cons_zero, List.set_cons_succ]
                    refine wpAnyL_take (i := 1) (oi := _) (v := ?v93) rfl (by kernel_rfl) (fun _ _ _ h => h) (by assumption) (Or.inl ⟨by kernel_rfl, ?y93⟩) ?r93
                    case y93 => (intro w hSw; (try dsimp only at hSw); go_simp; all_goals with_reducible rfl)
                    try simp only [Act.put, List.setIfInBounds_toArray, List.set_cons_zero, List.set_cons_succ]
                    refine wpAnyL_take (i := 2) (oi := _) (v := ?v94) rfl (by kernel_rfl) (fun _ _ _ h => h) (by assumption) (Or.inl ⟨by kernel_rfl, ?y94⟩) ?r94
                    case y94 => (intro w hSw; (try dsimp only at hSw); go_simp; all_goals with_reducible rfl)
                    try simp only [Act.put, List.setIfInBounds_toArray, List.set_cons_zero, List.set_cons_succ]
                    refine wpAnyL_take (i := 3) (oi := _) (v := ?v95) rfl (by kernel_rfl) (fun _ _ _ h => h) (by assumption) (Or.inl ⟨by kernel_rfl, ?y95⟩) ?r95
                    case y95 => (intro w hSw; (try dsimp only at hSw); go_simp; all_goals with_reducible rfl)
                    try simp only [Act.put, List.setIfInBounds_toArray, List.set_cons_zero, List.set_cons_succ]
                    refine wpAnyL_take (i := 4) (oi := _) (v := ?v96) rfl (by kernel_rfl) (fun _ _ _ h => h) (by assumption) (Or.inl ⟨by kernel_rfl, ?y96⟩) ?r96
                    case y96 => (intro w hSw; (try dsimp only at hSw); go_simp; all_goals with_reducible rfl)
                    try simp only [Act.put, List.setIfInBounds_toArray, List.set_cons_zero, List.set_cons_succ]
                    refine wpAnyL_take (i := 5) (oi := _) (v := ?v97) rfl (by kernel_rfl) (fun _ _ _ h => h) (by assumption) (Or.inl ⟨by kernel_rfl, ?y97⟩) ?r97
                    case y97 => (intro w hSw; (try dsimp only at hSw); go_simp; all_goals with_reducible rfl)
                    try simp only [Act.put, List.setIfInBounds_toArray, List.set_cons_zero, List.set_cons_succ]
                    refine wpAnyL_take (i := 6) (oi := _) (v := ?v98) rfl (by kernel_rfl) (fun _ _ _ h => h) (by assumption) (Or.inl ⟨by kernel_rfl, ?y98⟩) ?r98
                    case y98 => (intro w hSw; (try dsimp only at hSw); go_simp; all_goals with_reducible rfl)
                    try simp only [Act.put, List.setIfInBounds_toArray, List.set_cons_zero, List.set_cons_succ]
                    refine wpAnyL_take (i := 7) (oi := _) (v := undef) rfl (by kernel_rfl) (fun _ _ _ h => h) (by assumption) (Or.inr ⟨by kernel_rfl, rfl⟩) ?_
                    try simp only [Act.put, List.setIfInBounds_toArray, List.set_cons_zero, List.set_cons_succ]
                    refine wpAnyL_take (i := 8) (oi := _) (v := undef) rfl (by kernel_rfl) (fun _ _ _ h => h) (by assumption) (Or.inr ⟨by kernel_rfl, rfl⟩) ?_
                    try simp only [Act.put, List.setIfInBounds_toArray, List.set_cons_zero, List.set_cons_succ]
                    refine wpAnyL_take (i := 9) (oi := _) (v := undef) rfl (by kernel_rfl) (fun _ _ _ h => h) (by assumption) (Or.inr ⟨by kernel_rfl, rfl⟩) ?_
                    try simp only [Act.put, List.setIfInBounds_toArray, List.set_cons_zero, List.set_cons_succ]
                    refine wpAnyL_take (i := 10) (oi := _) (v := undef) rfl (by kernel_rfl) (fun _ _ _ h => h) (by assumption) (Or.inr ⟨by kernel_rfl, rfl⟩) ?_
                    try simp only [Act.put, List.setIfInBounds_toArray, List.set_cons_zero, List.set_cons_succ]
                    refine wpAnyL_take (i := 11) (oi := _) (v := undef) rfl (by kernel_rfl) (fun _ _ _ h => h) (by assumption) (Or.inr ⟨by kernel_rfl, rfl⟩) ?_
                    try simp only [Act.put, List.setIfInBounds_toArray, List.set_cons_zero, List.set_cons_succ]
                    refine wpAnyL_take (i := 12) (oi := _) (v := undef) rfl (by kernel_rfl) (fun _ _ _ h => h) (by assumption) (Or.inr ⟨by kernel_rfl, rfl⟩) ?_
                    try simp only [Act.put, List.setIfInBounds_toArray, List.set_cons_zero, List.set_cons_succ]
                    refine wpAnyL_take (i := 13) (oi := _) (v := undef) rfl (by kernel_rfl) (fun _ _ _ h => h) (by assumption) (Or.inr ⟨by kernel_rfl, rfl⟩) ?_
                    try simp only [Act.put, List.setIfInBounds_toArray, List.set_cons_zero, List.set_cons_succ]
                    refine wpAnyL_take (i := 14) (oi := _) (v := undef) rfl (by kernel_rfl) (fun _ _ _ h => h) (by assumption) (Or.inr ⟨by kernel_rfl, rfl⟩) ?_
                    try simp only [Act.put, List.setIfInBounds_toArray, List.set_cons_zero, List.set_cons_succ]
                    refine wpAnyL_take (i := 15) (oi := _) (v := undef) rfl (by kernel_rfl) (fun _ _ _ h => h) (by assumption) (Or.inr ⟨by kernel_rfl, rfl⟩) ?_
                    try simp only [Act.put, List.setIfInBounds_toArray, List.set_cons_zero, List.set_cons_succ]
                    refine wpAnyL_take (i := 16) (oi := _) (v := ?v108) rfl (by kernel_rfl) (fun _ _ _ h => h) (by assumption) (Or.inl ⟨by kernel_rfl, ?y108⟩) ?r108
                    case y108 => (intro w hSw; (try dsimp only at hSw); go_simp; all_goals with_reducible rfl)
                    try simp only [Act.put, List.setIfInBounds_toArray, List.set_cons_zero, List.set_cons_succ]
                    refine wpAnyL_take (i := 17) (oi := _) (v := ?v109) rfl (by kernel_rfl) (fun _ _ _ h => h) (by assumption) (Or.inl ⟨by kernel_rfl, ?y109⟩) ?r109
                    case y109 => (intro w hSw; (try dsimp only at hSw); go_simp; all_goals with_reducible rfl)
                    try simp only [Act.put, List.setIfInBounds_toArray, List.set_cons_zero, List.set_cons_succ]
                    refine wpAnyL_take (i := 18) (oi := _) (v := undef) rfl (by kernel_rfl) (fun _ _ _ h => h) (by assumption) (Or.inr ⟨by kernel_rfl, rfl⟩) ?_
                    try simp only [Act.put, List.setIfInBounds_toArray, List.set_cons_zero, List.set_cons_succ]
                    refine wpAnyL_take (i := 19) (oi := _) (v := undef) rfl (by kernel_rfl) (fun _ _ _ h => h) (by assumption) (Or.inr ⟨by kernel_rfl, rfl⟩) ?_
                    try simp only [Act.put, List.setIfInBounds_toArray, List.set_cons_zero, List.set_cons_succ]
                    refine wpAnyL_take (i := 20) (oi := _) (v := undef) rfl (by kernel_rfl) (fun _ _ _ h => h) (by assumption) (Or.inr ⟨by kernel_rfl, rfl⟩) ?_
                    try simp only [Act.put, List.setIfInBounds_toArray, List.set_cons_zero, List.set_cons_succ]
                    refine wpAnyL_take (i := 21) (oi := _) (v := undef) rfl (by kernel_rfl) (fun _ _ _ h => h) (by assumption) (Or.inr ⟨by kernel_rfl, rfl⟩) ?_
                    try simp only [Act.put, List.setIfInBounds_toArray, List.set_cons_zero, List.set_cons_succ]
                    refine wpAnyL_take (i := 22) (oi := _) (v := undef) rfl (by kernel_rfl) (fun _ _ _ h => h) (by assumption) (Or.inr ⟨by kernel_rfl, rfl⟩) ?_
                    try simp only [Act.put, List.setIfInBounds_toArray, List.set_cons_zero, List.set_cons_succ]
                    refine wpAnyL_take (i := 23) (oi := _) (v := undef) rfl (by kernel_rfl) (fun _ _ _ h => h) (by assumption) (Or.inr ⟨by kernel_rfl, rfl⟩) ?_
                    try simp only [Act.put, List.setIfInBounds_toArray, List.set_cons_zero, List.set_cons_succ]
                    refine wpAnyL_take (i := 24) (oi := _) (v := undef) rfl (by kernel_rfl) (fun _ _ _ h => h) (by assumption) (Or.inr ⟨by kernel_rfl, rfl⟩) ?_
                    try simp only [Act.put, List.setIfInBounds_toArray, List.set_cons_zero, List.set_cons_succ]
                    refine wpAnyL_take (i := 25) (oi := _) (v := undef) rfl (by kernel_rfl) (fun _ _ _ h => h) (by assumption) (Or.inr ⟨by kernel_rfl, rfl⟩) ?_
                    try simp only [Act.put, List.setIfInBounds_toArray, List.set_cons_zero, List.set_cons_succ]
                    refine wpAnyL_take (i := 26) (oi := _) (v := undef) rfl (by kernel_rfl) (fun _ _ _ h => h) (by assumption) (Or.inr ⟨by kernel_rfl, rfl⟩) ?_
                    try simp only [Act.put, List.setIfInBounds_toArray, List.set_cons_zero, List.set_cons_succ]
                    refine wpAnyL_take (i := 27) (oi := _) (v := undef) rfl (by kernel_rfl) (fun _ _ _ h => h) (by assumption) (Or.inr ⟨by kernel_rfl, rfl⟩) ?_
                    try simp only [Act.put, List.setIfInBounds_toArray, List.set_cons_zero, List.set_cons_succ]
                    refine wpAnyL_take (i := 28) (oi := _) (v := undef) rfl (by kernel_rfl) (fun _ _ _ h => h) (by assumption) (Or.inr ⟨by kernel_rfl, rfl⟩) ?_
                    try simp only [Act.put, List.setIfInBounds_toArray, List.set_cons_zero, List.set_cons_succ]
                    refine wpAnyL_take (i := 29) (oi := _) (v := undef) rfl (by kernel_rfl) (fun _ _ _ h => h) (by assumption) (Or.inr ⟨by kernel_rfl, rfl⟩) ?_
                    try simp only [Act.put, List.setIfInBounds_toArray, List.set_cons_zero, List.set_cons_succ]
                    refine wpAnyL_take (i := 30) (oi := _) (v := ?v122) rfl (by kernel_rfl) (fun _ _ _ h => h) (by assumption) (Or.inl ⟨by kernel_rfl, ?y122⟩) ?r122
                    case y122 => (intro w hSw; (try dsimp only at hSw); go_simp; all_goals with_reducible rfl)
                    try simp only [Act.put, List.setIfInBounds_toArray, List.set_cons_zero, List.set_cons_succ]
                    refine wpAnyL_take (i := 31) (oi := _) (v := ?v123) rfl (by kernel_rfl) (fun _ _ _ h => h) (by assumption) (Or.inl ⟨by kernel_rfl, ?y123⟩) ?r123
                    case y123 => (intro w hSw; (try dsimp only at hSw); go_simp; all_goals with_reducible rfl)
                    try simp only [Act.put, List.setIfInBounds_toArray, List.set_cons_zero, List.set_cons_succ]
                    refine wpAnyL_take (i := 32) (oi := _) (v := ?v124) rfl (by kernel_rfl) (fun _ _ _ h => h) (by assumption) (Or.inl ⟨by kernel_rfl, ?y124⟩) ?r124
                    case y124 => (intro w hSw; (try dsimp only at hSw); go_simp; all_goals with_reducible rfl)
                    try simp only [Act.put, List.setIfInBounds_toArray, List.set_cons_zero, List.set_cons_succ]
                    refine wpAnyL_take (i := 33) (oi := _) (v := ?v125) rfl (by kernel_rfl) (fun _ _ _ h => h) (by assumption) (Or.inl ⟨by kernel_rfl, ?y125⟩) ?r125
                    case y125 => (intro w hSw; (try dsimp only at hSw); go_simp; all_goals with_reducible rfl)
                    try simp only [Act.put, List.setIfInBounds_toArray, List.set_cons_zero, List.set_cons_succ]
                    refine wpAnyL_take (i := 34) (oi := _) (v := ?v126) rfl (by kernel_rfl) (fun _ _ _ h => h) (by assumption) (Or.inl ⟨by kernel_rfl, ?y126⟩) ?r126
                    case y126 => (intro w hSw; (try dsimp only at hSw); go_simp; all_goals with_reducible rfl)
                    try simp only [Act.put, List.setIfInBounds_toArray, List.set_cons_zero, List.set_cons_succ]
                    refine wpAnyL_step (j := 35) (o := _) (by kernel_rfl) rfl (fun K hK => ?_)
                    (go_simp; go_at_call 31; refine (do_any M (65 * evSum l (o.take k)) w.heap.size dc (heapAll l (o.take k)) dA evs th hxl hsl.out hel.out _ (hH0.out.drewN _).drew (hev.out _ (HB0.out _ (hF0.out.drewN _).drew)) HMB.out.1).mono ?_; rintro e w4 ⟨rfl, hH4, hM4⟩; rw [HOKV.out])
                    refine hK _ _ ?_ (fun hHeld => ?_)
                    · ((try dsimp only); (exact HS.out _ ((((MapF.refl M w0).drewN _).drew).trans hM4)))
                    clear hK K
                    try simp only [Act.put, List.setIfInBounds_toArray, List.set_cons_zero, List.set_cons_succ]
                    refine wpAnyL_take (i := 36) (oi := _) (v := ?v128) rfl (by kernel_rfl) (fun _ _ _ h => h) (by assumption) (Or.inl ⟨by kernel_rfl, ?y128⟩) ?r128
                    case y128 => (intro w hSw; (try dsimp only at hSw); go_simp; all_goals with_reducible rfl)
                    try simp only [Act.put, List.setIfInBounds_toArray, List.set_cons_zero, List.set_cons_succ]
                    refine wpAnyL_last (j := 37) (o := _) (by kernel_rfl) rfl (by rfl) (by kernel_rfl) (fun K hK => ?_)
                    go_simp
                    (refine hK _ _ ?_; clear hK K)
                    try simp only [Act.put, List.setIfInBounds_toArray, List.set_cons_zero, List.set_cons_succ]
                    unfold onlyN
                    have hFE := Lib.hid ((hF0.out.drewN _).drew.trans hM4)
                    clear hH4 hM4 hHeld
                    go_wp2_with fail
                    refine ⟨by simp, .inl ⟨_, _, rfl, run_takeDeferred (HD.out _ hFE.out), ?_⟩⟩
                    exact ⟨.tuple #[.int .i64 (i : Int), .int .i64 16], by simp [results, Tryz.results8, go_sem], congrArg _ F.out, below_put (HB0.out _ hFE.out) HMB.out.2 _⟩
                  · have HOKV := Lib.hid hok
                    have F : Hid (res = failV 16 (scheckGo l (pvO o (k + 1)) (o.drop (k + 1)) (heapAll l (o.take (k + 1))))) := Lib.hid (by rw [hst.out, hto.out, hok, hpv.out, hha.out]; rfl)
                    clear hok hto
                    go_wp2_with fail
                    go_quiet (fail)
                    go_wp2_with fail
                    refine wp_region_Ln (l := 37) (S := (fun W1 => W1.cell? ⟨X, 5, none⟩ = some (.int .i64 pl) ∧ W1.cell? ⟨X, 6, none⟩ = some (.bool false) ∧ W1.cell? ⟨X, 7, none⟩ = some (.slice dA evs.length dc))) (by kernel_rfl) ?_ (fun hHeld => ?_)
                    · ((try dsimp only); (exact HS.out _ (((MapF.refl M w0).drewN _).drew)))
                    refine wpAnyL_take (i := 0) (oi := _) (v := ?v130) rfl (by kernel_rfl) (fun _ _ _ h => h) (by assumption) (Or.inl ⟨by kernel_rfl, ?y130⟩) ?r130
                    case y130 => (intro w hSw; (try dsimp only at hSw); go_simp; all_goals with_reducible rfl)
                    try simp only [Act.put, List.setIfInBounds_toArray, List.set_cons_zero, List.set_cons_succ]
                    refine wpAnyL_take (i := 1) (oi := _) (v := ?v131) rfl (by kernel_rfl) (fun _ _ _ h => h) (by assumption) (Or.inl ⟨by kernel_rfl, ?y131⟩) ?r131
                    case y131 => (intro w hSw; (try dsimp only at hSw); go_simp; all_goals with_reducible rfl)
                    try simp only [Act.put, List.setIfInBounds_toArray, List.set_cons_zero, List.set_cons_succ]
                    refine wpAnyL_take (i := 2) (oi := _) (v := ?v132) rfl (by kernel_rfl) (fun _ _ _ h => h) (by assumption) (Or.inl ⟨by kernel_rfl, ?y132⟩) ?r132
                    case y132 => (intro w hSw; (try dsimp only at hSw); go_simp; all_goals with_reducible rfl)
                    try simp only [Act.put, List.setIfInBounds_toArray, List.set_cons_zero, List.set_cons_succ]
                    refine wpAnyL_take (i := 3) (oi := _) (v := ?v133) rfl (by kernel_rfl) (fun _ _ _ h => h) (by assumption) (Or.inl ⟨by kernel_rfl, ?y133⟩) ?r133
                    case y133 => (intro w hSw; (try dsimp only at hSw); go_simp; all_goals with_reducible rfl)
                    try simp only [Act.put, List.setIfInBounds_toArray, List.set_cons_zero, List.set_cons_succ]
                    refine wpAnyL_take (i := 4) (oi := _) (v := ?v134) rfl (by kernel_rfl) (fun _ _ _ h => h) (by assumption) (Or.inl ⟨by kernel_rfl, ?y134⟩) ?r134
                    case y134 => (intro w hSw; (try dsimp only at hSw); go_simp; all_goals with_reducible rfl)
                    try simp only [Act.put, List.setIfInBounds_toArray, List.set_cons_zero, List.set_cons_succ]
                    refine wpAnyL_take (i := 5) (oi := _) (v := ?v135) rfl (by kernel_rfl) (fun _ _ _ h => h) (by assumption) (Or.inl ⟨by kernel_rfl, ?y135⟩) ?r135
                    case y135 => (intro w hSw; (try dsimp only at hSw); go_simp; all_goals with_reducible rfl)
                    try simp only [Act.put, List.setIfInBounds_toArray, List.set_cons_zero, List.set_cons_succ]
                    refine wpAnyL_take (i := 6) (oi := _) (v := ?v136) rfl (by kernel_rfl) (fun _ _ _ h => h) (by assumption) (Or.inl ⟨by kernel_rfl, ?y136⟩) ?r136
                    case y136 => (intro w hSw; (try dsimp only at hSw); go_simp; all_goals with_reducible rfl)
                    try simp only [Act.put, List.setIfInBounds_toArray, List.set_cons_zero, List.set_cons_succ]
                    refine wpAnyL_take (i := 7) (oi := _) (v := undef) rfl (by kernel_rfl) (fun _ _ _ h => h) (by assumption) (Or.inr ⟨by kernel_rfl, rfl⟩) ?_
                    try simp only [Act.put, List.setIfInBounds_toArray, List.set_cons_zero, List.set_cons_succ]
                    refine wpAnyL_take (i := 8) (oi := _) (v := undef) rfl (by kernel_rfl) (fun _ _ _ h => h) (by assumption) (Or.inr ⟨by kernel_rfl, rfl⟩) ?_
                    try simp only [Act.put, List.setIfInBounds_toArray, List.set_cons_zero, List.set_cons_succ]
                    refine wpAnyL_take (i := 9) (oi := _) (v := undef) rfl (by kernel_rfl) (fun _ _ _ h => h) (by assumption) (Or.inr ⟨by kernel_rfl, rfl⟩) ?_
                    try simp only [Act.put, List.setIfInBounds_toArray, List.set_cons_zero, List.set_cons_succ]
                    refine wpAnyL_take (i := 10) (oi := _) (v := undef) rfl (by kernel_rfl) (fun _ _ _ h => h) (by assumption) (Or.inr ⟨by kernel_rfl, rfl⟩) ?_
                    try simp only [Act.put, List.setIfInBounds_toArray, List.set_cons_zero, List.set_cons_succ]
                    refine wpAnyL_take (i := 11) (oi := _) (v := undef) rfl (by kernel_rfl) (fun _ _ _ h => h) (by assumption) (Or.inr ⟨by kernel_rfl, rfl⟩) ?_
                    try simp only [Act.put, List.setIfInBounds_toArray, List.set_cons_zero, List.set_cons_succ]
                    refine wpAnyL_take (i := 12) (oi := _) (v := undef) rfl (by kernel_rfl) (fun _ _ _ h => h) (by assumption) (Or.inr ⟨by kernel_rfl, rfl⟩) ?_
                    try simp only [Act.put, List.setIfInBounds_toArray, List.set_cons_zero, List.set_cons_succ]
                    refine wpAnyL_take (i := 13) (oi := _) (v := undef) rfl (by kernel_rfl) (fun _ _ _ h => h) (by assumption) (Or.inr ⟨by kernel_rfl, rfl⟩) ?_
                    try simp only [Act.put, List.setIfInBounds_toArray, List.set_cons_zero, List.set_cons_succ]
                    refine wpAnyL_take (i := 14) (oi := _) (v := undef) rfl (by kernel_rfl) (fun _ _ _ h => h) (by assumption) (Or.inr ⟨by kernel_rfl, rfl⟩) ?_
                    try simp only [Act.put, List.setIfInBounds_toArray, List.set_cons_zero, List.set_cons_succ]
                    refine wpAnyL_take (i := 15) (oi := _) (v := undef) rfl (by kernel_rfl) (fun _ _ _ h => h) (by assumption) (Or.inr ⟨by kernel_rfl, rfl⟩) ?_
                    try simp only [Act.put, List.setIfInBounds_toArray, List.set_cons_zero, List.set_cons_succ]
                    refine wpAnyL_take (i := 16) (oi := _) (v := ?v146) rfl (by kernel_rfl) (fun _ _ _ h => h) (by assumption) (Or.inl ⟨by kernel_rfl, ?y146⟩) ?r146
                    case y146 => (intro w hSw; (try dsimp only at hSw); go_simp; all_goals with_reducible rfl)
                    try simp only [Act.put, List.setIfInBounds_toArray, List.set_cons_zero, List.set_cons_succ]
                    refine wpAnyL_take (i := 17) (oi := _) (v := ?v147) rfl (by kernel_rfl) (fun _ _ _ h => h) (by assumption) (Or.inl ⟨by kernel_rfl, ?y147⟩) ?r147
                    case y147 => (intro w hSw; (try dsimp only at hSw); go_simp; all_goals with_reducible rfl)
                    try simp only [Act.put, List.setIfInBounds_toArray, List.set_cons_zero, List.set_cons_succ]
                    refine wpAnyL_take (i := 18) (oi := _) (v := undef) rfl (by kernel_rfl) (fun _ _ _ h => h) (by assumption) (Or.inr ⟨by kernel_rfl, rfl⟩) ?_
                    try simp only [Act.put, List.setIfInBounds_toArray, List.set_cons_zero, List.set_cons_succ]
                    refine wpAnyL_take (i := 19) (oi := _) (v := undef) rfl (by kernel_rfl) (fun _ _ _ h => h) (by assumption) (Or.inr ⟨by kernel_rfl, rfl⟩) ?_
                    try simp only [Act.put, List.setIfInBounds_toArray, List.set_cons_zero, List.set_cons_succ]
                    refine wpAnyL_take (i := 20) (oi := _) (v := undef) rfl (by kernel_rfl) (fun _ _ _ h => h) (by assumption) (Or.inr ⟨by kernel_rfl, rfl⟩) ?_
                    try simp only [Act.put, List.setIfInBounds_toArray, List.set_cons_zero, List.set_cons_succ]
                    refine wpAnyL_take (i := 21) (oi := _) (v := undef) rfl (by kernel_rfl) (fun _ _ _ h => h) (by assumption) (Or.inr ⟨by kernel_rfl, rfl⟩) ?_
                    try simp only [Act.put, List.setIfInBounds_toArray, List.set_cons_zero, List.set_cons_succ]
                    refine wpAnyL_take (i := 22) (oi := _) (v := undef) rfl (by kernel_rfl) (fun _ _ _ h => h) (by assumption) (Or.inr ⟨by kernel_rfl, rfl⟩) ?_
                    try simp only [Act.put, List.setIfInBounds_toArray, List.set_cons_zero, List.set_cons_succ]
                    refine wpAnyL_take (i := 23) (oi := _) (v := undef) rfl (by kernel_rfl) (fun _ _ _ h => h) (by assumption) (Or.inr ⟨by kernel_rfl, rfl⟩) ?_
                    try simp only [Act.put, List.setIfInBounds_toArray, List.set_cons_zero, List.set_cons_succ]
                    refine wpAnyL_take (i := 24) (oi := _) (v := undef) rfl (by kernel_rfl) (fun _ _ _ h => h) (by assumption) (Or.inr ⟨by kernel_rfl, rfl⟩) ?_
                    try simp only [Act.put, List.setIfInBounds_toArray, List.set_cons_zero, List.set_cons_succ]
                    refine wpAnyL_take (i := 25) (oi := _) (v := undef) rfl (by kernel_rfl) (fun _ _ _ h => h) (by assumption) (Or.inr ⟨by kernel_rfl, rfl⟩) ?_
                    try simp only [Act.put, List.setIfInBounds_toArray, List.set_cons_zero, List.set_cons_succ]
                    refine wpAnyL_take (i := 26) (oi := _) (v := undef) rfl (by kernel_rfl) (fun _ _ _ h => h) (by assumption) (Or.inr ⟨by kernel_rfl, rfl⟩) ?_
                    try simp only [Act.put, List.setIfInBounds_toArray, List.set_cons_zero, List.set_cons_succ]
                    refine wpAnyL_take (i := 27) (oi := _) (v := undef) rfl (by kernel_rfl) (fun _ _ _ h => h) (by assumption) (Or.inr ⟨by kernel_rfl, rfl⟩) ?_
                    try simp only [Act.put, List.setIfInBounds_toArray, List.set_cons_zero, List.set_cons_succ]
                    refine wpAnyL_take (i := 28) (oi := _) (v := undef) rfl (by kernel_rfl) (fun _ _ _ h => h) (by assumption) (Or.inr ⟨by kernel_rfl, rfl⟩) ?_
                    try simp only [Act.put, List.setIfInBounds_toArray, List.set_cons_zero, List.set_cons_succ]
                    refine wpAnyL_take (i := 29) (oi := _) (v := undef) rfl (by kernel_rfl) (fun _ _ _ h => h) (by assumption) (Or.inr ⟨by kernel_rfl, rfl⟩) ?_
                    try simp only [Act.put, List.setIfInBounds_toArray, List.set_cons_zero, List.set_cons_succ]
                    refine wpAnyL_take (i := 30) (oi := _) (v := ?v160) rfl (by kernel_rfl) (fun _ _ _ h => h) (by assumption) (Or.inl ⟨by kernel_rfl, ?y160⟩) ?r160
                    case y160 => (intro w hSw; (try dsimp only at hSw); go_simp; all_goals with_reducible rfl)
                    try simp only [Act.put, List.setIfInBounds_toArray, List.set_cons_zero, List.set_cons_succ]
                    refine wpAnyL_take (i := 31) (oi := _) (v := ?v161) rfl (by kernel_rfl) (fun _ _ _ h => h) (by assumption) (Or.inl ⟨by kernel_rfl, ?y161⟩) ?r161
                    case y161 => (intro w hSw; (try dsimp only at hSw); go_simp; all_goals with_reducible rfl)
                    try simp only [Act.put, List.setIfInBounds_toArray, List.set_cons_zero, List.set_cons_succ]
                    refine wpAnyL_take (i := 32) (oi := _) (v := ?v162) rfl (by kernel_rfl) (fun _ _ _ h => h) (by assumption) (Or.inl ⟨by kernel_rfl, ?y162⟩) ?r162
                    case y162 => (intro w hSw; (try dsimp only at hSw); go_simp; all_goals with_reducible rfl)
                    try simp only [Act.put, List.setIfInBounds_toArray, List.set_cons_zero, List.set_cons_succ]
                    refine wpAnyL_take (i := 33) (oi := _) (v := ?v163) rfl (by kernel_rfl) (fun _ _ _ h => h) (by assumption) (Or.inl ⟨by kernel_rfl, ?y163⟩) ?r163
                    case y163 => (intro w hSw; (try dsimp only at hSw); go_simp; all_goals with_reducible rfl)
                    try simp only [Act.put, List.setIfInBounds_toArray, List.set_cons_zero, List.set_cons_succ]
                    refine wpAnyL_take (i := 34) (oi := _) (v := ?v164) rfl (by kernel_rfl) (fun _ _ _ h => h) (by assumption) (Or.inl ⟨by kernel_rfl, ?y164⟩) ?r164
                    case y164 => (intro w hSw; (try dsimp only at hSw); go_simp; all_goals with_reducible rfl)
                    try simp only [Act.put, List.setIfInBounds_toArray, List.set_cons_zero, List.set_cons_succ]
                    refine wpAnyL_step (j := 35) (o := _) (by kernel_rfl) rfl (fun K hK => ?_)
                    (go_simp; go_at_call 31; refine (do_any M (65 * evSum l (o.take k)) w.heap.size dc (heapAll l (o.take k)) dA evs th hxl hsl.out hel.out _ (hH0.out.drewN _).drew (hev.out _ (HB0.out _ (hF0.out.drewN _).drew)) HMB.out.1).mono ?_; rintro e w4 ⟨rfl, hH4, hM4⟩; rw [HOKV.out])
                    refine hK _ _ ?_ (fun hHeld => ?_)
                    · ((try dsimp only); (exact HS.out _ ((((MapF.refl M w0).drewN _).drew).trans hM4)))
                    clear hK K
                    try simp only [Act.put, List.setIfInBounds_toArray, List.set_cons_zero, List.set_cons_succ]
                    refine wpAnyL_take (i := 36) (oi := _) (v := ?v166) rfl (by kernel_rfl) (fun _ _ _ h => h) (by assumption) (Or.inl ⟨by kernel_rfl, ?y166⟩) ?r166
                    case y166 => (intro w hSw; (try dsimp only at hSw); go_simp; all_goals with_reducible rfl)
                    try simp only [Act.put, List.setIfInBounds_toArray, List.set_cons_zero, List.set_cons_succ]
                    refine wpAnyL_last (j := 37) (o := _) (by kernel_rfl) rfl (by rfl) (by kernel_rfl) (fun K hK => ?_)
                    go_simp
                    (refine hK _ _ ?_; clear hK K)
                    try simp only [Act.put, List.setIfInBounds_toArray, List.set_cons_zero, List.set_cons_succ]
                    unfold onlyN
                    have hFE := Lib.hid ((hF0.out.drewN _).drew.trans hM4)
                    have hHE : Hid (HeapAt Tryz.prog 2 w4 M (65 * evSum l (o.take (k + 1))) (heapAll l (o.take (k + 1)))) := Lib.hid (by rw [hha.out]; exact hH4.mono (by rw [hsu.out]; omega))
                    clear hH4 hM4 hHeld
                    go_wp2_with fail
                    go_roundw
                    case rel => exact ⟨k + 1, by go_num, by omega, F, hHE, hFE⟩
                    case measure => simp [intOf]; omega
            · have t1 : (pl != ck) = true := by simpa using hp
              have t1d : decide (pl = ck) = false := by simpa using hp
              have t1e : (!decide (pl = ck)) = true := by simpa using hp
              have F : Hid ((.tuple #[.int .i64 (i : Int), .int .i64 16] : Value) = .tuple #[.int .i64 res.1, .int .i64 res.2]) := Lib.hid (by
                rw [hst.out, show orderedB l (pvO o k) ⟨th, xkd, bg, en, ck, pl, false, dA, dc, evs⟩ (o.drop (k + 1)) (heapAll l (o.take k)) = false by rw [hle.out]; simp [placedB, hp]]; rfl)
              clear hst hpv hha hsu hH0
              go_wp2_with fail
              go_quiet (fail)
              go_wp2_with fail
              refine ⟨by simp, .inl ⟨_, _, rfl, run_takeDeferred (HD.out _ (hF0.out.drewN _)), ?_⟩⟩
              exact ⟨.tuple #[.int .i64 (i : Int), .int .i64 16], by simp [results, Tryz.results8, go_sem], congrArg _ F.out, below_put (HB0.out _ (hF0.out.drewN _)) HMB.out.2 _⟩
          · by_cases hp : ck < pl
            · have t1 : decide (pl ≤ ck) = false := by simpa using hp
              have HP := Lib.hid hp
              clear hp
              by_cases hb : lv < bg
              · have t2 : decide (lv < bg) = true := by simpa using hb
                have F : Hid ((.tuple #[.int .i64 (i : Int), .int .i64 16] : Value) = .tuple #[.int .i64 res.1, .int .i64 res.2]) := Lib.hid (by
                  rw [hst.out, show orderedB l (pvO o k) ⟨th, xkd, bg, en, ck, pl, true, dA, dc, evs⟩ (o.drop (k + 1)) (heapAll l (o.take k)) = false by rw [hle.out, HLV.out, t2]; simp]; rfl)
                clear hst hpv hha hsu hH0
                go_wp2_with fail
                go_quiet (fail)
                go_wp2_with fail
                refine ⟨by simp, .inl ⟨_, _, rfl, run_takeDeferred (HD.out _ (hF0.out.drewN _)), ?_⟩⟩
                exact ⟨.tuple #[.int .i64 (i : Int), .int .i64 16], by simp [results, Tryz.results8, go_sem], congrArg _ F.out, below_put (HB0.out _ (hF0.out.drewN _)) HMB.out.2 _⟩
              · have t2 : decide (lv < bg) = false := by simpa using hb
                by_cases hk0 : k = 0
                · have HTW : Hid (twinB l (pvO o k) ⟨th, xkd, bg, en, ck, pl, true, dA, dc, evs⟩ = false) := Lib.hid (by unfold twinB pvO; rw [if_pos hk0])
                  have HS := HX
                  have t3 : decide (0 < k) = false := by simp; omega
                  have t4 : decide ((0 : Int) < (k : Int)) = false := by simp; omega
                  clear hk0
                  have hto : Hid (orderedB l (pvO o k) ⟨th, xkd, bg, en, ck, pl, true, dA, dc, evs⟩ (o.drop (k + 1)) (heapAll l (o.take k)) = okV (heapAll l (o.take k)) evs) := Lib.hid (by rw [hle.out, HLV.out, t2, HTW.out]; simp [placedB, HP.out])
                  cases hok : okV (heapAll l (o.take k)) evs
                  · have HOKV := Lib.hid hok
                    have F : Hid ((.tuple #[.int .i64 (i : Int), .int .i64 16] : Value) = .tuple #[.int .i64 res.1, .int .i64 res.2]) := Lib.hid (by rw [hst.out, hto.out, hok]; rfl)
                    clear hok hto
                    go_wp2_with fail
                    go_quiet (fail)
                    go_wp2_with fail
                    refine wp_region_Ln (l := 37) (S := (fun W1 => W1.cell? ⟨X, 5, none⟩ = some (.int .i64 pl) ∧ W1.cell? ⟨X, 6, none⟩ = some (.bool true) ∧ W1.cell? ⟨X, 7, none⟩ = some (.slice dA evs.length dc))) (by kernel_rfl) ?_ (fun hHeld => ?_)
                    · ((try dsimp only); (exact HS.out _ (((MapF.refl M w0).drewN _).drew)))
                    refine wpAnyL_take (i := 0) (oi := _) (v := ?v168) rfl (by kernel_rfl) (fun _ _ _ h => h) (by assumption) (Or.inl ⟨by kernel_rfl, ?y168⟩) ?r168
                    case y168 => (intro w hSw; (try dsimp only at hSw); go_simp; all_goals with_reducible rfl)
                    try simp only [Act.put, List.setIfInBounds_toArray, List.set_cons_zero, List.set_cons_succ]
                    refine wpAnyL_take (i := 1) (oi := _) (v := ?v169) rfl (by kernel_rfl) (fun _ _ _ h => h) (by assumption) (Or.inl ⟨by kernel_rfl, ?y169⟩) ?r169
                    case y169 => (intro w hSw; (try dsimp only at hSw); go_simp; all_goals with_reducible rfl)
                    try simp only [Act.put, List.setIfInBounds_toArray, List.set_cons_zero, List.set_cons_succ]
                    refine wpAnyL_take (i := 2) (oi := _) (v := ?v170) rfl (by kernel_rfl) (fun _ _ _ h => h) (by assumption) (Or.inl ⟨by kernel_rfl, ?y170⟩) ?r170
                    case y170 => (intro w hSw; (try dsimp only at hSw); go_simp; all_goals with_reducible rfl)
                    try simp only [Act.put, List.setIfInBounds_toArray, List.set_cons_zero, List.set_cons_succ]
                    refine wpAnyL_take (i := 3) (oi := _) (v := undef) rfl (by kernel_rfl) (fun _ _ _ h => h) (by assumption) (Or.inr ⟨by kernel_rfl, rfl⟩) ?_
                    try simp only [Act.put, List.setIfInBounds_toArray, List.set_cons_zero, List.set_cons_succ]
                    refine wpAnyL_take (i := 4) (oi := _) (v := undef) rfl (by kernel_rfl) (fun _ _ _ h => h) (by assumption) (Or.inr ⟨by kernel_rfl, rfl⟩) ?_
                    try simp only [Act.put, List.setIfInBounds_toArray, List.set_cons_zero, List.set_cons_succ]
                    refine wpAnyL_take (i := 5) (oi := _) (v := ?v173) rfl (by kernel_rfl) (fun _ _ _ h => h) (by assumption) (Or.inl ⟨by kernel_rfl, ?y173⟩) ?r173
                    case y173 => (intro w hSw; (try dsimp only at hSw); go_simp; all_goals with_reducible rfl)
                    try simp only [Act.put, List.setIfInBounds_toArray, List.set_cons_zero, List.set_cons_succ]
                    refine wpAnyL_take (i := 6) (oi := _) (v := ?v174) rfl (by kernel_rfl) (fun _ _ _ h => h) (by assumption) (Or.inl ⟨by kernel_rfl, ?y174⟩) ?r174
                    case y174 => (intro w hSw; (try dsimp only at hSw); go_simp; all_goals with_reducible rfl)
                    try simp only [Act.put, List.setIfInBounds_toArray, List.set_cons_zero, List.set_cons_succ]
                    refine wpAnyL_take (i := 7) (oi := _) (v := undef) rfl (by kernel_rfl) (fun _ _ _ h => h) (by assumption) (Or.inr ⟨by kernel_rfl, rfl⟩) ?_
                    try simp only [Act.put, List.setIfInBounds_toArray, List.set_cons_zero, List.set_cons_succ]
                    refine wpAnyL_take (i := 8) (oi := _) (v := undef) rfl (by kernel_rfl) (fun _ _ _ h => h) (by assumption) (Or.inr ⟨by kernel_rfl, rfl⟩) ?_
                    try simp only [Act.put, List.setIfInBounds_toArray, List.set_cons_zero, List.set_cons_succ]
                    refine wpAnyL_take (i := 9) (oi := _) (v := undef) rfl (by kernel_rfl) (fun _ _ _ h => h) (by assumption) (Or.inr ⟨by kernel_rfl, rfl⟩) ?_
                    try simp only [Act.put, List.setIfInBounds_toArray, List.set_cons_zero, List.set_cons_succ]
                    refine wpAnyL_take (i := 10) (oi := _) (v := undef) rfl (by kernel_rfl) (fun _ _ _ h => h) (by assumption) (Or.inr ⟨by kernel_rfl, rfl⟩) ?_
                    try simp only [Act.put, List.setIfInBounds_toArray, List.set_cons_zero, List.set_cons_succ]
                    refine wpAnyL_take (i := 11) (oi := _) (v := undef) rfl (by kernel_rfl) (fun _ _ _ h => h) (by assumption) (Or.inr ⟨by kernel_rfl, rfl⟩) ?_
                    try simp only [Act.put, List.setIfInBounds_toArray, List.set_cons_zero, List.set_cons_succ]
                    refine wpAnyL_take (i := 12) (oi := _) (v := undef) rfl (by kernel_rfl) (fun _ _ _ h => h) (by assumption) (Or.inr ⟨by kernel_rfl, rfl⟩) ?_
                    try simp only [Act.put, List.setIfInBounds_toArray, List.set_cons_zero, List.set_cons_succ]
                    refine wpAnyL_take (i := 13) (oi := _) (v := undef) rfl (by kernel_rfl) (fun _ _ _ h => h) (by assumption) (Or.inr ⟨by kernel_rfl, rfl⟩) ?_
                    try simp only [Act.put, List.setIfInBounds_toArray, List.set_cons_zero, List.set_cons_succ]
                    refine wpAnyL_take (i := 14) (oi := _) (v := undef) rfl (by kernel_rfl) (fun _ _ _ h => h) (by assumption) (Or.inr ⟨by kernel_rfl, rfl⟩) ?_
                    try simp only [Act.put, List.setIfInBounds_toArray, List.set_cons_zero, List.set_cons_succ]
                    refine wpAnyL_take (i := 15) (oi := _) (v := undef) rfl (by kernel_rfl) (fun _ _ _ h => h) (by assumption) (Or.inr ⟨by kernel_rfl, rfl⟩) ?_
                    try simp only [Act.put, List.setIfInBounds_toArray, List.set_cons_zero, List.set_cons_succ]
                    refine wpAnyL_take (i := 16) (oi := _) (v := ?v184) rfl (by kernel_rfl) (fun _ _ _ h => h) (by assumption) (Or.inl ⟨by kernel_rfl, ?y184⟩) ?r184
                    case y184 => (intro w hSw; (try dsimp only at hSw); go_simp; all_goals with_reducible rfl)
                    try simp only [Act.put, List.setIfInBounds_toArray, List.set_cons_zero, List.set_cons_succ]
                    refine wpAnyL_take (i := 17) (oi := _) (v := ?v185) rfl (by kernel_rfl) (fun _ _ _ h => h) (by assumption) (Or.inl ⟨by kernel_rfl, ?y185⟩) ?r185
                    case y185 => (intro w hSw; (try dsimp only at hSw); go_simp; all_goals with_reducible rfl)
                    try simp only [Act.put, List.setIfInBounds_toArray, List.set_cons_zero, List.set_cons_succ]
                    refine wpAnyL_take (i := 18) (oi := _) (v := undef) rfl (by kernel_rfl) (fun _ _ _ h => h) (by assumption) (Or.inr ⟨by kernel_rfl, rfl⟩) ?_
                    try simp only [Act.put, List.setIfInBounds_toArray, List.set_cons_zero, List.set_cons_succ]
                    refine wpAnyL_take (i := 19) (oi := _) (v := undef) rfl (by kernel_rfl) (fun _ _ _ h => h) (by assumption) (Or.inr ⟨by kernel_rfl, rfl⟩) ?_
                    try simp only [Act.put, List.setIfInBounds_toArray, List.set_cons_zero, List.set_cons_succ]
                    refine wpAnyL_take (i := 20) (oi := _) (v := undef) rfl (by kernel_rfl) (fun _ _ _ h => h) (by assumption) (Or.inr ⟨by kernel_rfl, rfl⟩) ?_
                    try simp only [Act.put, List.setIfInBounds_toArray, List.set_cons_zero, List.set_cons_succ]
                    refine wpAnyL_take (i := 21) (oi := _) (v := undef) rfl (by kernel_rfl) (fun _ _ _ h => h) (by assumption) (Or.inr ⟨by kernel_rfl, rfl⟩) ?_
                    try simp only [Act.put, List.setIfInBounds_toArray, List.set_cons_zero, List.set_cons_succ]
                    refine wpAnyL_take (i := 22) (oi := _) (v := undef) rfl (by kernel_rfl) (fun _ _ _ h => h) (by assumption) (Or.inr ⟨by kernel_rfl, rfl⟩) ?_
                    try simp only [Act.put, List.setIfInBounds_toArray, List.set_cons_zero, List.set_cons_succ]
                    refine wpAnyL_take (i := 23) (oi := _) (v := undef) rfl (by kernel_rfl) (fun _ _ _ h => h) (by assumption) (Or.inr ⟨by kernel_rfl, rfl⟩) ?_
                    try simp only [Act.put, List.setIfInBounds_toArray, List.set_cons_zero, List.set_cons_succ]
                    refine wpAnyL_take (i := 24) (oi := _) (v := undef) rfl (by kernel_rfl) (fun _ _ _ h => h) (by assumption) (Or.inr ⟨by kernel_rfl, rfl⟩) ?_
                    try simp only [Act.put, List.setIfInBounds_toArray, List.set_cons_zero, List.set_cons_succ]
                    refine wpAnyL_take (i := 25) (oi := _) (v := undef) rfl (by kernel_rfl) (fun _ _ _ h => h) (by assumption) (Or.inr ⟨by kernel_rfl, rfl⟩) ?_
                    try simp only [Act.put, List.setIfInBounds_toArray, List.set_cons_zero, List.set_cons_succ]
                    refine wpAnyL_take (i := 26) (oi := _) (v := undef) rfl (by kernel_rfl) (fun _ _ _ h => h) (by assumption) (Or.inr ⟨by kernel_rfl, rfl⟩) ?_
                    try simp only [Act.put, List.setIfInBounds_toArray, List.set_cons_zero, List.set_cons_succ]
                    refine wpAnyL_take (i := 27) (oi := _) (v := undef) rfl (by kernel_rfl) (fun _ _ _ h => h) (by assumption) (Or.inr ⟨by kernel_rfl, rfl⟩) ?_
                    try simp only [Act.put, List.setIfInBounds_toArray, List.set_cons_zero, List.set_cons_succ]
                    refine wpAnyL_take (i := 28) (oi := _) (v := undef) rfl (by kernel_rfl) (fun _ _ _ h => h) (by assumption) (Or.inr ⟨by kernel_rfl, rfl⟩) ?_
                    try simp only [Act.put, List.setIfInBounds_toArray, List.set_cons_zero, List.set_cons_succ]
                    refine wpAnyL_take (i := 29) (oi := _) (v := undef) rfl (by kernel_rfl) (fun _ _ _ h => h) (by assumption) (Or.inr ⟨by kernel_rfl, rfl⟩) ?_
                    try simp only [Act.put, List.setIfInBounds_toArray, List.set_cons_zero, List.set_cons_succ]
                    refine wpAnyL_take (i := 30) (oi := _) (v := ?v198) rfl (by kernel_rfl) (fun _ _ _ h => h) (by assumption) (Or.inl ⟨by kernel_rfl, ?y198⟩) ?r198
                    case y198 => (intro w hSw; (try dsimp only at hSw); go_simp; all_goals with_reducible rfl)
                    try simp only [Act.put, List.setIfInBounds_toArray, List.set_cons_zero, List.set_cons_succ]
                    refine wpAnyL_take (i := 31) (oi := _) (v := ?v199) rfl (by kernel_rfl) (fun _ _ _ h => h) (by assumption) (Or.inl ⟨by kernel_rfl, ?y199⟩) ?r199
                    case y199 => (intro w hSw; (try dsimp only at hSw); go_simp; all_goals with_reducible rfl)
                    try simp only [Act.put, List.setIfInBounds_toArray, List.set_cons_zero, List.set_cons_succ]
                    refine wpAnyL_take (i := 32) (oi := _) (v := ?v200) rfl (by kernel_rfl) (fun _ _ _ h => h) (by assumption) (Or.inl ⟨by kernel_rfl, ?y200⟩) ?r200
                    case y200 => (intro w hSw; (try dsimp only at hSw); go_simp; all_goals with_reducible rfl)
                    try simp only [Act.put, List.setIfInBounds_toArray, List.set_cons_zero, List.set_cons_succ]
                    refine wpAnyL_take (i := 33) (oi := _) (v := ?v201) rfl (by kernel_rfl) (fun _ _ _ h => h) (by assumption) (Or.inl ⟨by kernel_rfl, ?y201⟩) ?r201
                    case y201 => (intro w hSw; (try dsimp only at hSw); go_simp; all_goals with_reducible rfl)
                    try simp only [Act.put, List.setIfInBounds_toArray, List.set_cons_zero, List.set_cons_succ]
                    refine wpAnyL_take (i := 34) (oi := _) (v := ?v202) rfl (by kernel_rfl) (fun _ _ _ h => h) (by assumption) (Or.inl ⟨by kernel_rfl, ?y202⟩) ?r202
                    case y202 => (intro w hSw; (try dsimp only at hSw); go_simp; all_goals with_reducible rfl)
                    try simp only [Act.put, List.setIfInBounds_toArray, List.set_cons_zero, List.set_cons_succ]
                    refine wpAnyL_step (j := 35) (o := _) (by kernel_rfl) rfl (fun K hK => ?_)
                    (go_simp; go_at_call 31; refine (do_any M (65 * evSum l (o.take k)) w.heap.size dc (heapAll l (o.take k)) dA evs th hxl hsl.out hel.out _ (hH0.out.drewN _).drew (hev.out _ (HB0.out _ (hF0.out.drewN _).drew)) HMB.out.1).mono ?_; rintro e w4 ⟨rfl, hH4, hM4⟩; rw [HOKV.out])
                    refine hK _ _ ?_ (fun hHeld => ?_)
                    · ((try dsimp only); (exact HS.out _ ((((MapF.refl M w0).drewN _).drew).trans hM4)))
                    clear hK K
                    try simp only [Act.put, List.setIfInBounds_toArray, List.set_cons_zero, List.set_cons_succ]
                    refine wpAnyL_take (i := 36) (oi := _) (v := ?v204) rfl (by kernel_rfl) (fun _ _ _ h => h) (by assumption) (Or.inl ⟨by kernel_rfl, ?y204⟩) ?r204
                    case y204 => (intro w hSw; (try dsimp only at hSw); go_simp; all_goals with_reducible rfl)
                    try simp only [Act.put, List.setIfInBounds_toArray, List.set_cons_zero, List.set_cons_succ]
                    refine wpAnyL_last (j := 37) (o := _) (by kernel_rfl) rfl (by rfl) (by kernel_rfl) (fun K hK => ?_)
                    go_simp
                    (refine hK _ _ ?_; clear hK K)
                    try simp only [Act.put, List.setIfInBounds_toArray, List.set_cons_zero, List.set_cons_succ]
                    unfold onlyN
                    have hFE := Lib.hid ((hF0.out.drewN _).drew.trans hM4)
                    clear hH4 hM4 hHeld
                    go_wp2_with fail
                    refine ⟨by simp, .inl ⟨_, _, rfl, run_takeDeferred (HD.out _ hFE.out), ?_⟩⟩
                    exact ⟨.tuple #[.int .i64 (i : Int), .int .i64 16], by simp [results, Tryz.results8, go_sem], congrArg _ F.out, below_put (HB0.out _ hFE.out) HMB.out.2 _⟩
                  · have HOKV := Lib.hid hok
                    have F : Hid (res = failV 16 (scheckGo l (pvO o (k + 1)) (o.drop (k + 1)) (heapAll l (o.take (k + 1))))) := Lib.hid (by rw [hst.out, hto.out, hok, hpv.out, hha.out]; rfl)
                    clear hok hto
                    go_wp2_with fail
                    go_quiet (fail)
                    go_wp2_with fail
                    refine wp_region_Ln (l := 37) (S := (fun W1 => W1.cell? ⟨X, 5, none⟩ = some (.int .i64 pl) ∧ W1.cell? ⟨X, 6, none⟩ = some (.bool true) ∧ W1.cell? ⟨X, 7, none⟩ = some (.slice dA evs.length dc))) (by kernel_rfl) ?_ (fun hHeld => ?_)
                    · ((try dsimp only); (exact HS.out _ (((MapF.refl M w0).drewN _).drew)))
                    refine wpAnyL_take (i := 0) (oi := _) (v := ?v206) rfl (by kernel_rfl) (fun _ _ _ h => h) (by assumption) (Or.inl ⟨by kernel_rfl, ?y206⟩) ?r206
                    case y206 => (intro w hSw; (try dsimp only at hSw); go_simp; all_goals with_reducible rfl)
                    try simp only [Act.put, List.setIfInBounds_toArray, List.set_cons_zero, List.set_cons_succ]
                    refine wpAnyL_take (i := 1) (oi := _) (v := ?v207) rfl (by kernel_rfl) (fun _ _ _ h => h) (by assumption) (Or.inl ⟨by kernel_rfl, ?y207⟩) ?r207
                    case y207 => (intro w hSw; (try dsimp only at hSw); go_simp; all_goals with_reducible rfl)
                    try simp only [Act.put, List.setIfInBounds_toArray, List.set_cons_zero, List.set_cons_succ]
                    refine wpAnyL_take (i := 2) (oi := _) (v := ?v208) rfl (by kernel_rfl) (fun _ _ _ h => h) (by assumption) (Or.inl ⟨by kernel_rfl, ?y208⟩) ?r208
                    case y208 => (intro w hSw; (try dsimp only at hSw); go_simp; all_goals with_reducible rfl)
                    try simp only [Act.put, List.setIfInBounds_toArray, List.set_cons_zero, List.set_cons_succ]
                    refine wpAnyL_take (i := 3) (oi := _) (v := undef) rfl (by kernel_rfl) (fun _ _ _ h => h) (by assumption) (Or.inr ⟨by kernel_rfl, rfl⟩) ?_
                    try simp only [Act.put, List.setIfInBounds_toArray, List.set_cons_zero, List.set_cons_succ]
                    refine wpAnyL_take (i := 4) (oi := _) (v := undef) rfl (by kernel_rfl) (fun _ _ _ h => h) (by assumption) (Or.inr ⟨by kernel_rfl, rfl⟩) ?_
                    try simp only [Act.put, List.setIfInBounds_toArray, List.set_cons_zero, List.set_cons_succ]
                    refine wpAnyL_take (i := 5) (oi := _) (v := ?v211) rfl (by kernel_rfl) (fun _ _ _ h => h) (by assumption) (Or.inl ⟨by kernel_rfl, ?y211⟩) ?r211
                    case y211 => (intro w hSw; (try dsimp only at hSw); go_simp; all_goals with_reducible rfl)
                    try simp only [Act.put, List.setIfInBounds_toArray, List.set_cons_zero, List.set_cons_succ]
                    refine wpAnyL_take (i := 6) (oi := _) (v := ?v212) rfl (by kernel_rfl) (fun _ _ _ h => h) (by assumption) (Or.inl ⟨by kernel_rfl, ?y212⟩) ?r212
                    case y212 => (intro w hSw; (try dsimp only at hSw); go_simp; all_goals with_reducible rfl)
                    try simp only [Act.put, List.setIfInBounds_toArray, List.set_cons_zero, List.set_cons_succ]
                    refine wpAnyL_take (i := 7) (oi := _) (v := undef) rfl (by kernel_rfl) (fun _ _ _ h => h) (by assumption) (Or.inr ⟨by kernel_rfl, rfl⟩) ?_
                    try simp only [Act.put, List.setIfInBounds_toArray, List.set_cons_zero, List.set_cons_succ]
                    refine wpAnyL_take (i := 8) (oi := _) (v := undef) rfl (by kernel_rfl) (fun _ _ _ h => h) (by assumption) (Or.inr ⟨by kernel_rfl, rfl⟩) ?_
                    try simp only [Act.put, List.setIfInBounds_toArray, List.set_cons_zero, List.set_cons_succ]
                    refine wpAnyL_take (i := 9) (oi := _) (v := undef) rfl (by kernel_rfl) (fun _ _ _ h => h) (by assumption) (Or.inr ⟨by kernel_rfl, rfl⟩) ?_
                    try simp only [Act.put, List.setIfInBounds_toArray, List.set_cons_zero, List.set_cons_succ]
                    refine wpAnyL_take (i := 10) (oi := _) (v := undef) rfl (by kernel_rfl) (fun _ _ _ h => h) (by assumption) (Or.inr ⟨by kernel_rfl, rfl⟩) ?_
                    try simp only [Act.put, List.setIfInBounds_toArray, List.set_cons_zero, List.set_cons_succ]
                    refine wpAnyL_take (i := 11) (oi := _) (v := undef) rfl (by kernel_rfl) (fun _ _ _ h => h) (by assumption) (Or.inr ⟨by kernel_rfl, rfl⟩) ?_
                    try simp only [Act.put, List.setIfInBounds_toArray, List.set_cons_zero, List.set_cons_succ]
                    refine wpAnyL_take (i := 12) (oi := _) (v := undef) rfl (by kernel_rfl) (fun _ _ _ h => h) (by assumption) (Or.inr ⟨by kernel_rfl, rfl⟩) ?_
                    try simp only [Act.put, List.setIfInBounds_toArray, List.set_cons_zero, List.set_cons_succ]
                    refine wpAnyL_take (i := 13) (oi := _) (v := undef) rfl (by kernel_rfl) (fun _ _ _ h => h) (by assumption) (Or.inr ⟨by kernel_rfl, rfl⟩) ?_
                    try simp only [Act.put, List.setIfInBounds_toArray, List.set_cons_zero, List.set_cons_succ]
                    refine wpAnyL_take (i := 14) (oi := _) (v := undef) rfl (by kernel_rfl) (fun _ _ _ h => h) (by assumption) (Or.inr ⟨by kernel_rfl, rfl⟩) ?_
                    try simp only [Act.put, List.setIfInBounds_toArray, List.set_cons_zero, List.set_cons_succ]
                    refine wpAnyL_take (i := 15) (oi := _) (v := undef) rfl (by kernel_rfl) (fun _ _ _ h => h) (by assumption) (Or.inr ⟨by kernel_rfl, rfl⟩) ?_
                    try simp only [Act.put, List.setIfInBounds_toArray, List.set_cons_zero, List.set_cons_succ]
                    refine wpAnyL_take (i := 16) (oi := _) (v := ?v222) rfl (by kernel_rfl) (fun _ _ _ h => h) (by assumption) (Or.inl ⟨by kernel_rfl, ?y222⟩) ?r222
                    case y222 => (intro w hSw; (try dsimp only at hSw); go_simp; all_goals with_reducible rfl)
                    try simp only [Act.put, List.setIfInBounds_toArray, List.set_cons_zero, List.set_cons_succ]
                    refine wpAnyL_take (i := 17) (oi := _) (v := ?v223) rfl (by kernel_rfl) (fun _ _ _ h => h) (by assumption) (Or.inl ⟨by kernel_rfl, ?y223⟩) ?r223
                    case y223 => (intro w hSw; (try dsimp only at hSw); go_simp; all_goals with_reducible rfl)
                    try simp only [Act.put, List.setIfInBounds_toArray, List.set_cons_zero, List.set_cons_succ]
                    refine wpAnyL_take (i := 18) (oi := _) (v := undef) rfl (by kernel_rfl) (fun _ _ _ h => h) (by assumption) (Or.inr ⟨by kernel_rfl, rfl⟩) ?_
                    try simp only [Act.put, List.setIfInBounds_toArray, List.set_cons_zero, List.set_cons_succ]
                    refine wpAnyL_take (i := 19) (oi := _) (v := undef) rfl (by kernel_rfl) (fun _ _ _ h => h) (by assumption) (Or.inr ⟨by kernel_rfl, rfl⟩) ?_
                    try simp only [Act.put, List.setIfInBounds_toArray, List.set_cons_zero, List.set_cons_succ]
                    refine wpAnyL_take (i := 20) (oi := _) (v := undef) rfl (by kernel_rfl) (fun _ _ _ h => h) (by assumption) (Or.inr ⟨by kernel_rfl, rfl⟩) ?_
                    try simp only [Act.put, List.setIfInBounds_toArray, List.set_cons_zero, List.set_cons_succ]
                    refine wpAnyL_take (i := 21) (oi := _) (v := undef) rfl (by kernel_rfl) (fun _ _ _ h => h) (by assumption) (Or.inr ⟨by kernel_rfl, rfl⟩) ?_
                    try simp only [Act.put, List.setIfInBounds_toArray, List.set_cons_zero, List.set_cons_succ]
                    refine wpAnyL_take (i := 22) (oi := _) (v := undef) rfl (by kernel_rfl) (fun _ _ _ h => h) (by assumption) (Or.inr ⟨by kernel_rfl, rfl⟩) ?_
                    try simp only [Act.put, List.setIfInBounds_toArray, List.set_cons_zero, List.set_cons_succ]
                    refine wpAnyL_take (i := 23) (oi := _) (v := undef) rfl (by kernel_rfl) (fun _ _ _ h => h) (by assumption) (Or.inr ⟨by kernel_rfl, rfl⟩) ?_
                    try simp only [Act.put, List.setIfInBounds_toArray, List.set_cons_zero, List.set_cons_succ]
                    refine wpAnyL_take (i := 24) (oi := _) (v := undef) rfl (by kernel_rfl) (fun _ _ _ h => h) (by assumption) (Or.inr ⟨by kernel_rfl, rfl⟩) ?_
                    try simp only [Act.put, List.setIfInBounds_toArray, List.set_cons_zero, List.set_cons_succ]
                    refine wpAnyL_take (i := 25) (oi := _) (v := undef) rfl (by kernel_rfl) (fun _ _ _ h => h) (by assumption) (Or.inr ⟨by kernel_rfl, rfl⟩) ?_
                    try simp only [Act.put, List.setIfInBounds_toArray, List.set_cons_zero, List.set_cons_succ]
                    refine wpAnyL_take (i := 26) (oi := _) (v := undef) rfl (by kernel_rfl) (fun _ _ _ h => h) (by assumption) (Or.inr ⟨by kernel_rfl, rfl⟩) ?_
                    try simp only [Act.put, List.setIfInBounds_toArray, List.set_cons_zero, List.set_cons_succ]
                    refine wpAnyL_take (i := 27) (oi := _) (v := undef) rfl (by kernel_rfl) (fun _ _ _ h => h) (by assumption) (Or.inr ⟨by kernel_rfl, rfl⟩) ?_
                    try simp only [Act.put, List.setIfInBounds_toArray, List.set_cons_zero, List.set_cons_succ]
                    refine wpAnyL_take (i := 28) (oi := _) (v := undef) rfl (by kernel_rfl) (fun _ _ _ h => h) (by assumption) (Or.inr ⟨by kernel_rfl, rfl⟩) ?_
                    try simp only [Act.put, List.setIfInBounds_toArray, List.set_cons_zero, List.set_cons_succ]
                    refine wpAnyL_take (i := 29) (oi := _) (v := undef) rfl (by kernel_rfl) (fun _ _ _ h => h) (by assumption) (Or.inr ⟨by kernel_rfl, rfl⟩) ?_
                    try simp only [Act.put, List.setIfInBounds_toArray, List.set_cons_zero, List.set_cons_succ]
                    refine wpAnyL_take (i := 30) (oi := _) (v := ?v236) rfl (by kernel_rfl) (fun _ _ _ h => h) (by assumption) (Or.inl ⟨by kernel_rfl, ?y236⟩) ?r236
                    case y236 => (intro w hSw; (try dsimp only at hSw); go_simp; all_goals with_reducible rfl)
                    try simp only [Act.put, List.setIfInBounds_toArray, List.set_cons_zero, List.set_cons_succ]
                    refine wpAnyL_take (i := 31) (oi := _) (v := ?v237) rfl (by kernel_rfl) (fun _ _ _ h => h) (by assumption) (Or.inl ⟨by kernel_rfl, ?y237⟩) ?r237
                    case y237 => (intro w hSw; (try dsimp only at hSw); go_simp; all_goals with_reducible rfl)
                    try simp only [Act.put, List.setIfInBounds_toArray, List.set_cons_zero, List.set_cons_succ]
                    refine wpAnyL_take (i := 32) (oi := _) (v := ?v238) rfl (by kernel_rfl) (fun _ _ _ h => h) (by assumption) (Or.inl ⟨by kernel_rfl, ?y238⟩) ?r238
                    case y238 => (intro w hSw; (try dsimp only at hSw); go_simp; all_goals with_reducible rfl)
                    try simp only [Act.put, List.setIfInBounds_toArray, List.set_cons_zero, List.set_cons_succ]
                    refine wpAnyL_take (i := 33) (oi := _) (v := ?v239) rfl (by kernel_rfl) (fun _ _ _ h => h) (by assumption) (Or.inl ⟨by kernel_rfl, ?y239⟩) ?r239
                    case y239 => (intro w hSw; (try dsimp only at hSw); go_simp; all_goals with_reducible rfl)
                    try simp only [Act.put, List.setIfInBounds_toArray, List.set_cons_zero, List.set_cons_succ]
                    refine wpAnyL_take (i := 34) (oi := _) (v := ?v240) rfl (by kernel_rfl) (fun _ _ _ h => h) (by assumption) (Or.inl ⟨by kernel_rfl, ?y240⟩) ?r240
                    case y240 => (intro w hSw; (try dsimp only at hSw); go_simp; all_goals with_reducible rfl)
                    try simp only [Act.put, List.setIfInBounds_toArray, List.set_cons_zero, List.set_cons_succ]
                    refine wpAnyL_step (j := 35) (o := _) (by kernel_rfl) rfl (fun K hK => ?_)
                    (go_simp; go_at_call 31; refine (do_any M (65 * evSum l (o.take k)) w.heap.size dc (heapAll l (o.take k)) dA evs th hxl hsl.out hel.out _ (hH0.out.drewN _).drew (hev.out _ (HB0.out _ (hF0.out.drewN _).drew)) HMB.out.1).mono ?_; rintro e w4 ⟨rfl, hH4, hM4⟩; rw [HOKV.out])
                    refine hK _ _ ?_ (fun hHeld => ?_)
                    · ((try dsimp only); (exact HS.out _ ((((MapF.refl M w0).drewN _).drew).trans hM4)))
                    clear hK K
                    try simp only [Act.put, List.setIfInBounds_toArray, List.set_cons_zero, List.set_cons_succ]
                    refine wpAnyL_take (i := 36) (oi := _) (v := ?v242) rfl (by kernel_rfl) (fun _ _ _ h => h) (by assumption) (Or.inl ⟨by kernel_rfl, ?y242⟩) ?r242
                    case y242 => (intro w hSw; (try dsimp only at hSw); go_simp; all_goals with_reducible rfl)
                    try simp only [Act.put, List.setIfInBounds_toArray, List.set_cons_zero, List.set_cons_succ]
                    refine wpAnyL_last (j := 37) (o := _) (by kernel_rfl) rfl (by rfl) (by kernel_rfl) (fun K hK => ?_)
                    go_simp
                    (refine hK _ _ ?_; clear hK K)
                    try simp only [Act.put, List.setIfInBounds_toArray, List.set_cons_zero, List.set_cons_succ]
                    unfold onlyN
                    have hFE := Lib.hid ((hF0.out.drewN _).drew.trans hM4)
                    have hHE : Hid (HeapAt Tryz.prog 2 w4 M (65 * evSum l (o.take (k + 1))) (heapAll l (o.take (k + 1)))) := Lib.hid (by rw [hha.out]; exact hH4.mono (by rw [hsu.out]; omega))
                    clear hH4 hM4 hHeld
                    go_wp2_with fail
                    go_roundw
                    case rel => exact ⟨k + 1, by go_num, by omega, F, hHE, hFE⟩
                    case measure => simp [intOf]; omega
                · have t3 : decide (0 < k) = true := by simp; omega
                  have t4 : decide ((0 : Int) < (k : Int)) = true := by simp; omega
                  obtain ⟨k', hk'⟩ : ∃ k', k = k' + 1 := ⟨k - 1, by omega⟩
                  have hkl : k' < o.length := by omega
                  obtain ⟨i', hi', hil'⟩ := HR.out _ (List.getElem_mem hkl)
                  have HPV : Hid (pvO o k = some (i' : Int)) := Lib.hid (by
                    unfold pvO
                    rw [if_neg hk0, hk', Nat.add_sub_cancel, List.getD_eq_getElem?_getD, List.getElem?_eq_getElem hkl, hi']; rfl)
                  have hwr2 : IntKind.i64.wrap ((k : Int) - 1) = (k' : Int) := by rw [IntKind.wrap_i64]; omega
                  have r1 : (0 : Int) ≤ (k' : Int) := Int.natCast_nonneg _
                  have r2 : (k' : Int) < (o.length : Int) := by omega
                  have r3 : (0 : Int) ≤ (i' : Int) := Int.natCast_nonneg _
                  have r4 : (i' : Int) < (l.length : Int) := by omega
                  have HY := Lib.hid (fun W1 (h : MapF M w0 W1) => And.intro (HX.out W1 h) (And.intro (HLL.out W1 (hF0.out.trans h)) (And.intro ((HGC.out W1 (hF0.out.trans h) k' _ (List.getElem?_eq_getElem hkl)).trans (by rw [hi'])) (And.intro (HCC.out W1 (hF0.out.trans h) i' _ (List.getElem?_eq_getElem hil')).c6 (HCC.out W1 (hF0.out.trans h) i' _ (List.getElem?_eq_getElem hil')).c5))))
                  have HTW0 : Hid (twinB l (pvO o k) ⟨th, xkd, bg, en, ck, pl, true, dA, dc, evs⟩ = (l[i'].wr && decide (l[i'].pl = pl))) := Lib.hid (by unfold twinB; rw [HPV.out]; simp only [Bool.true_and]; rw [attN_get hil'])
                  clear hk0 hk' hi' hkl
                  generalize l[i'] = y at *
                  obtain ⟨yth, ykd, ybg, yen, yck, ypl, ywr, ydA, ydc, yevs⟩ := y
                  dsimp only at *
                  have HS := HY
                  cases ywr
                  · have HTW : Hid (twinB l (pvO o k) ⟨th, xkd, bg, en, ck, pl, true, dA, dc, evs⟩ = false) := Lib.hid (by rw [HTW0.out]; rfl)
                    have hto : Hid (orderedB l (pvO o k) ⟨th, xkd, bg, en, ck, pl, true, dA, dc, evs⟩ (o.drop (k + 1)) (heapAll l (o.take k)) = okV (heapAll l (o.take k)) evs) := Lib.hid (by rw [hle.out, HLV.out, t2, HTW.out]; simp [placedB, HP.out])
                    cases hok : okV (heapAll l (o.take k)) evs
                    · have HOKV := Lib.hid hok
                      have F : Hid ((.tuple #[.int .i64 (i : Int), .int .i64 16] : Value) = .tuple #[.int .i64 res.1, .int .i64 res.2]) := Lib.hid (by rw [hst.out, hto.out, hok]; rfl)
                      clear hok hto
                      go_wp2_with fail
                      go_quiet (fail)
                      go_wp2_with fail
                      refine wp_region_Ln (l := 37) (S := (fun W1 => (W1.cell? ⟨X, 5, none⟩ = some (.int .i64 pl) ∧ W1.cell? ⟨X, 6, none⟩ = some (.bool true) ∧ W1.cell? ⟨X, 7, none⟩ = some (.slice dA evs.length dc)) ∧ W1.cell? ⟨w.heap.size, 0, none⟩ = some (.slice (some ⟨b, off, none⟩) l.length c) ∧ W1.cell? ⟨gb, goff + k', none⟩ = some (.int .i64 (i' : Int)) ∧ W1.cell? ⟨b, off + i' * 8 + 6, none⟩ = some (.bool false) ∧ W1.cell? ⟨b, off + i' * 8 + 5, none⟩ = some (.int .i64 ypl))) (by kernel_rfl) ?_ (fun hHeld => ?_)
                      · ((try dsimp only); (exact HS.out _ (((MapF.refl M w0).drewN _).drew)))
                      refine wpAnyL_take (i := 0) (oi := _) (v := ?v244) rfl (by kernel_rfl) (fun _ _ _ h => h) (by assumption) (Or.inl ⟨by kernel_rfl, ?y244⟩) ?r244
                      case y244 => (intro w hSw; (try dsimp only at hSw); go_simp; all_goals with_reducible rfl)
                      try simp only [Act.put, List.setIfInBounds_toArray, List.set_cons_zero, List.set_cons_succ]
                      refine wpAnyL_take (i := 1) (oi := _) (v := ?v245) rfl (by kernel_rfl) (fun _ _ _ h => h) (by assumption) (Or.inl ⟨by kernel_rfl, ?y245⟩) ?r245
                      case y245 => (intro w hSw; (try dsimp only at hSw); go_simp; all_goals with_reducible rfl)
                      try simp only [Act.put, List.setIfInBounds_toArray, List.set_cons_zero, List.set_cons_succ]
                      refine wpAnyL_take (i := 2) (oi := _) (v := ?v246) rfl (by kernel_rfl) (fun _ _ _ h => h) (by assumption) (Or.inl ⟨by kernel_rfl, ?y246⟩) ?r246
                      case y246 => (intro w hSw; (try dsimp only at hSw); go_simp; all_goals with_reducible rfl)
                      try simp only [Act.put, List.setIfInBounds_toArray, List.set_cons_zero, List.set_cons_succ]
                      refine wpAnyL_take (i := 3) (oi := _) (v := ?v247) rfl (by kernel_rfl) (fun _ _ _ h => h) (by assumption) (Or.inl ⟨by kernel_rfl, ?y247⟩) ?r247
                      case y247 => (intro w hSw; (try dsimp only at hSw); go_simp; all_goals with_reducible rfl)
                      try simp only [Act.put, List.setIfInBounds_toArray, List.set_cons_zero, List.set_cons_succ]
                      refine wpAnyL_take (i := 4) (oi := _) (v := ?v248) rfl (by kernel_rfl) (fun _ _ _ h => h) (by assumption) (Or.inl ⟨by kernel_rfl, ?y248⟩) ?r248
                      case y248 => (intro w hSw; (try dsimp only at hSw); go_simp; all_goals with_reducible rfl)
                      try simp only [Act.put, List.setIfInBounds_toArray, List.set_cons_zero, List.set_cons_succ]
                      refine wpAnyL_take (i := 5) (oi := _) (v := ?v249) rfl (by kernel_rfl) (fun _ _ _ h => h) (by assumption) (Or.inl ⟨by kernel_rfl, ?y249⟩) ?r249
                      case y249 => (intro w hSw; (try dsimp only at hSw); go_simp; all_goals with_reducible rfl)
                      try simp only [Act.put, List.setIfInBounds_toArray, List.set_cons_zero, List.set_cons_succ]
                      refine wpAnyL_take (i := 6) (oi := _) (v := ?v250) rfl (by kernel_rfl) (fun _ _ _ h => h) (by assumption) (Or.inl ⟨by kernel_rfl, ?y250⟩) ?r250
                      case y250 => (intro w hSw; (try dsimp only at hSw); go_simp; all_goals with_reducible rfl)
                      try simp only [Act.put, List.setIfInBounds_toArray, List.set_cons_zero, List.set_cons_succ]
                      refine wpAnyL_take (i := 7) (oi := _) (v := ?v251) rfl (by kernel_rfl) (fun _ _ _ h => h) (by assumption) (Or.inl ⟨by kernel_rfl, ?y251⟩) ?r251
                      case y251 => (intro w hSw; (try dsimp only at hSw); go_simp; all_goals with_reducible rfl)
                      try simp only [Act.put, List.setIfInBounds_toArray, List.set_cons_zero, List.set_cons_succ]
                      refine wpAnyL_take (i := 8) (oi := _) (v := ?v252) rfl (by kernel_rfl) (fun _ _ _ h => h) (by assumption) (Or.inl ⟨by kernel_rfl, ?y252⟩) ?r252
                      case y252 => (intro w hSw; (try dsimp only at hSw); go_simp; all_goals with_reducible rfl)
                      try simp only [Act.put, List.setIfInBounds_toArray, List.set_cons_zero, List.set_cons_succ]
                      refine wpAnyL_take (i := 9) (oi := _) (v := ?v253) rfl (by kernel_rfl) (fun _ _ _ h => h) (by assumption) (Or.inl ⟨by kernel_rfl, ?y253⟩) ?r253
                      case y253 => (intro w hSw; (try dsimp only at hSw); go_simp; all_goals with_reducible rfl)
                      try simp only [Act.put, List.setIfInBounds_toArray, List.set_cons_zero, List.set_cons_succ]
                      refine wpAnyL_take (i := 10) (oi := _) (v := ?v254) rfl (by kernel_rfl) (fun _ _ _ h => h) (by assumption) (Or.inl ⟨by kernel_rfl, ?y254⟩) ?r254
                      case y254 => (intro w hSw; (try dsimp only at hSw); go_simp; all_goals with_reducible rfl)
                      try simp only [Act.put, List.setIfInBounds_toArray, List.set_cons_zero, List.set_cons_succ]
                      refine wpAnyL_take (i := 11) (oi := _) (v := ?v255) rfl (by kernel_rfl) (fun _ _ _ h => h) (by assumption) (Or.inl ⟨by kernel_rfl, ?y255⟩) ?r255
                      case y255 => (intro w hSw; (try dsimp only at hSw); go_simp; all_goals with_reducible rfl)
                      try simp only [Act.put, List.setIfInBounds_toArray, List.set_cons_zero, List.set_cons_succ]
                      refine wpAnyL_take (i := 12) (oi := _) (v := ?v256) rfl (by kernel_rfl) (fun _ _ _ h => h) (by assumption) (Or.inl ⟨by kernel_rfl, ?y256⟩) ?r256
                      case y256 => (intro w hSw; (try dsimp only at hSw); go_simp; all_goals with_reducible rfl)
                      try simp only [Act.put, List.setIfInBounds_toArray, List.set_cons_zero, List.set_cons_succ]
                      refine wpAnyL_take (i := 13) (oi := _) (v := ?v257) rfl (by kernel_rfl) (fun _ _ _ h => h) (by assumption) (Or.inl ⟨by kernel_rfl, ?y257⟩) ?r257
                      case y257 => (intro w hSw; (try dsimp only at hSw); go_simp; all_goals with_reducible rfl)
                      try simp only [Act.put, List.setIfInBounds_toArray, List.set_cons_zero, List.set_cons_succ]
                      refine wpAnyL_take (i := 14) (oi := _) (v := ?v258) rfl (by kernel_rfl) (fun _ _ _ h => h) (by assumption) (Or.inl ⟨by kernel_rfl, ?y258⟩) ?r258
                      case y258 => (intro w hSw; (try dsimp only at hSw); go_simp; all_goals with_reducible rfl)
                      try simp only [Act.put, List.setIfInBounds_toArray, List.set_cons_zero, List.set_cons_succ]
                      refine wpAnyL_take (i := 15) (oi := _) (v := ?v259) rfl (by kernel_rfl) (fun _ _ _ h => h) (by assumption) (Or.inl ⟨by kernel_rfl, ?y259⟩) ?r259
                      case y259 => (intro w hSw; (try dsimp only at hSw); go_simp; all_goals with_reducible rfl)
                      try simp only [Act.put, List.setIfInBounds_toArray, List.set_cons_zero, List.set_cons_succ]
                      refine wpAnyL_take (i := 16) (oi := _) (v := ?v260) rfl (by kernel_rfl) (fun _ _ _ h => h) (by assumption) (Or.inl ⟨by kernel_rfl, ?y260⟩) ?r260
                      case y260 => (intro w hSw; (try dsimp only at hSw); go_simp; all_goals with_reducible rfl)
                      try simp only [Act.put, List.setIfInBounds_toArray, List.set_cons_zero, List.set_cons_succ]
                      refine wpAnyL_take (i := 17) (oi := _) (v := ?v261) rfl (by kernel_rfl) (fun _ _ _ h => h) (by assumption) (Or.inl ⟨by kernel_rfl, ?y261⟩) ?r261
                      case y261 => (intro w hSw; (try dsimp only at hSw); go_simp; all_goals with_reducible rfl)
                      try simp only [Act.put, List.setIfInBounds_toArray, List.set_cons_zero, List.set_cons_succ]
                      refine wpAnyL_take (i := 18) (oi := _) (v := undef) rfl (by kernel_rfl) (fun _ _ _ h => h) (by assumption) (Or.inr ⟨by kernel_rfl, rfl⟩) ?_
                      try simp only [Act.put, List.setIfInBounds_toArray, List.set_cons_zero, List.set_cons_succ]
                      refine wpAnyL_take (i := 19) (oi := _) (v := undef) rfl (by kernel_rfl) (fun _ _ _ h => h) (by assumption) (Or.inr ⟨by kernel_rfl, rfl⟩) ?_
                      try simp only [Act.put, List.setIfInBounds_toArray, List.set_cons_zero, List.set_cons_succ]
                      refine wpAnyL_take (i := 20) (oi := _) (v := undef) rfl (by kernel_rfl) (fun _ _ _ h => h) (by assumption) (Or.inr ⟨by kernel_rfl, rfl⟩) ?_
                      try simp only [Act.put, List.setIfInBounds_toArray, List.set_cons_zero, List.set_cons_succ]
                      refine wpAnyL_take (i := 21) (oi := _) (v := undef) rfl (by kernel_rfl) (fun _ _ _ h => h) (by assumption) (Or.inr ⟨by kernel_rfl, rfl⟩) ?_
                      try simp only [Act.put, List.setIfInBounds_toArray, List.set_cons_zero, List.set_cons_succ]
                      refine wpAnyL_take (i := 22) (oi := _) (v := undef) rfl (by kernel_rfl) (fun _ _ _ h => h) (by assumption) (Or.inr ⟨by kernel_rfl, rfl⟩) ?_
                      try simp only [Act.put, List.setIfInBounds_toArray, List.set_cons_zero, List.set_cons_succ]
                      refine wpAnyL_take (i := 23) (oi := _) (v := undef) rfl (by kernel_rfl) (fun _ _ _ h => h) (by assumption) (Or.inr ⟨by kernel_rfl, rfl⟩) ?_
                      try simp only [Act.put, List.setIfInBounds_toArray, List.set_cons_zero, List.set_cons_succ]
                      refine wpAnyL_take (i := 24) (oi := _) (v := undef) rfl (by kernel_rfl) (fun _ _ _ h => h) (by assumption) (Or.inr ⟨by kernel_rfl, rfl⟩) ?_
                      try simp only [Act.put, List.setIfInBounds_toArray, List.set_cons_zero, List.set_cons_succ]
                      refine wpAnyL_take (i := 25) (oi := _) (v := undef) rfl (by kernel_rfl) (fun _ _ _ h => h) (by assumption) (Or.inr ⟨by kernel_rfl, rfl⟩) ?_
                      try simp only [Act.put, List.setIfInBounds_toArray, List.set_cons_zero, List.set_cons_succ]
                      refine wpAnyL_take (i := 26) (oi := _) (v := undef) rfl (by kernel_rfl) (fun _ _ _ h => h) (by assumption) (Or.inr ⟨by kernel_rfl, rfl⟩) ?_
                      try simp only [Act.put, List.setIfInBounds_toArray, List.set_cons_zero, List.set_cons_succ]
                      refine wpAnyL_take (i := 27) (oi := _) (v := undef) rfl (by kernel_rfl) (fun _ _ _ h => h) (by assumption) (Or.inr ⟨by kernel_rfl, rfl⟩) ?_
                      try simp only [Act.put, List.setIfInBounds_toArray, List.set_cons_zero, List.set_cons_succ]
                      refine wpAnyL_take (i := 28) (oi := _) (v := undef) rfl (by kernel_rfl) (fun _ _ _ h => h) (by assumption) (Or.inr ⟨by kernel_rfl, rfl⟩) ?_
                      try simp only [Act.put, List.setIfInBounds_toArray, List.set_cons_zero, List.set_cons_succ]
                      refine wpAnyL_take (i := 29) (oi := _) (v := undef) rfl (by kernel_rfl) (fun _ _ _ h => h) (by assumption) (Or.inr ⟨by kernel_rfl, rfl⟩) ?_
                      try simp only [Act.put, List.setIfInBounds_toArray, List.set_cons_zero, List.set_cons_succ]
                      refine wpAnyL_take (i := 30) (oi := _) (v := ?v274) rfl (by kernel_rfl) (fun _ _ _ h => h) (by assumption) (Or.inl ⟨by kernel_rfl, ?y274⟩) ?r274
                      case y274 => (intro w hSw; (try dsimp only at hSw); go_simp; all_goals with_reducible rfl)
                      try simp only [Act.put, List.setIfInBounds_toArray, List.set_cons_zero, List.set_cons_succ]
                      refine wpAnyL_take (i := 31) (oi := _) (v := ?v275) rfl (by kernel_rfl) (fun _ _ _ h => h) (by assumption) (Or.inl ⟨by kernel_rfl, ?y275⟩) ?r275
                      case y275 => (intro w hSw; (try dsimp only at hSw); go_simp; all_goals with_reducible rfl)
                      try simp only [Act.put, List.setIfInBounds_toArray, List.set_cons_zero, List.set_cons_succ]
                      refine wpAnyL_take (i := 32) (oi := _) (v := ?v276) rfl (by kernel_rfl) (fun _ _ _ h => h) (by assumption) (Or.inl ⟨by kernel_rfl, ?y276⟩) ?r276
                      case y276 => (intro w hSw; (try dsimp only at hSw); go_simp; all_goals with_reducible rfl)
                      try simp only [Act.put, List.setIfInBounds_toArray, List.set_cons_zero, List.set_cons_succ]
                      refine wpAnyL_take (i := 33) (oi := _) (v := ?v277) rfl (by kernel_rfl) (fun _ _ _ h => h) (by assumption) (Or.inl ⟨by kernel_rfl, ?y277⟩) ?r277
                      case y277 => (intro w hSw; (try dsimp only at hSw); go_simp; all_goals with_reducible rfl)
                      try simp only [Act.put, List.setIfInBounds_toArray, List.set_cons_zero, List.set_cons_succ]
                      refine wpAnyL_take (i := 34) (oi := _) (v := ?v278) rfl (by kernel_rfl) (fun _ _ _ h => h) (by assumption) (Or.inl ⟨by kernel_rfl, ?y278⟩) ?r278
                      case y278 => (intro w hSw; (try dsimp only at hSw); go_simp; all_goals with_reducible rfl)
                      try simp only [Act.put, List.setIfInBounds_toArray, List.set_cons_zero, List.set_cons_succ]
                      refine wpAnyL_step (j := 35) (o := _) (by kernel_rfl) rfl (fun K hK => ?_)
                      (go_simp; go_at_call 31; refine (do_any M (65 * evSum l (o.take k)) w.heap.size dc (heapAll l (o.take k)) dA evs th hxl hsl.out hel.out _ (hH0.out.drewN _).drew (hev.out _ (HB0.out _ (hF0.out.drewN _).drew)) HMB.out.1).mono ?_; rintro e w4 ⟨rfl, hH4, hM4⟩; rw [HOKV.out])
                      refine hK _ _ ?_ (fun hHeld => ?_)
                      · ((try dsimp only); (exact HS.out _ ((((MapF.refl M w0).drewN _).drew).trans hM4)))
                      clear hK K
                      try simp only [Act.put, List.setIfInBounds_toArray, List.set_cons_zero, List.set_cons_succ]
                      refine wpAnyL_take (i := 36) (oi := _) (v := ?v280) rfl (by kernel_rfl) (fun _ _ _ h => h) (by assumption) (Or.inl ⟨by kernel_rfl, ?y280⟩) ?r280
                      case y280 => (intro w hSw; (try dsimp only at hSw); go_simp; all_goals with_reducible rfl)
                      try simp only [Act.put, List.setIfInBounds_toArray, List.set_cons_zero, List.set_cons_succ]
                      refine wpAnyL_last (j := 37) (o := _) (by kernel_rfl) rfl (by rfl) (by kernel_rfl) (fun K hK => ?_)
                      go_simp
                      (refine hK _ _ ?_; clear hK K)
                      try simp only [Act.put, List.setIfInBounds_toArray, List.set_cons_zero, List.set_cons_succ]
                      unfold onlyN
                      have hFE := Lib.hid ((hF0.out.drewN _).drew.trans hM4)
                      clear hH4 hM4 hHeld
                      go_wp2_with fail
                      refine ⟨by simp, .inl ⟨_, _, rfl, run_takeDeferred (HD.out _ hFE.out), ?_⟩⟩
                      exact ⟨.tuple #[.int .i64 (i : Int), .int .i64 16], by simp [results, Tryz.results8, go_sem], congrArg _ F.out, below_put (HB0.out _ hFE.out) HMB.out.2 _⟩
                    · have HOKV := Lib.hid hok
                      have F : Hid (res = failV 16 (scheckGo l (pvO o (k + 1)) (o.drop (k + 1)) (heapAll l (o.take (k + 1))))) := Lib.hid (by rw [hst.out, hto.out, hok, hpv.out, hha.out]; rfl)
                      clear hok hto
                      go_wp2_with fail
                      go_quiet (fail)
                      go_wp2_with fail
                      refine wp_region_Ln (l := 37) (S := (fun W1 => (W1.cell? ⟨X, 5, none⟩ = some (.int .i64 pl) ∧ W1.cell? ⟨X, 6, none⟩ = some (.bool true) ∧ W1.cell? ⟨X, 7, none⟩ = some (.slice dA evs.length dc)) ∧ W1.cell? ⟨w.heap.size, 0, none⟩ = some (.slice (some ⟨b, off, none⟩) l.length c) ∧ W1.cell? ⟨gb, goff + k', none⟩ = some (.int .i64 (i' : Int)) ∧ W1.cell? ⟨b, off + i' * 8 + 6, none⟩ = some (.bool false) ∧ W1.cell? ⟨b, off + i' * 8 + 5, none⟩ = some (.int .i64 ypl))) (by kernel_rfl) ?_ (fun hHeld => ?_)
                      · ((try dsimp only); (exact HS.out _ (((MapF.refl M w0).drewN _).drew)))
                      refine wpAnyL_take (i := 0) (oi := _) (v := ?v282) rfl (by kernel_rfl) (fun _ _ _ h => h) (by assumption) (Or.inl ⟨by kernel_rfl, ?y282⟩) ?r282
                      case y282 => (intro w hSw; (try dsimp only at hSw); go_simp; all_goals with_reducible rfl)
                      try simp only [Act.put, List.setIfInBounds_toArray, List.set_cons_zero, List.set_cons_succ]
                      refine wpAnyL_take (i := 1) (oi := _) (v := ?v283) rfl (by kernel_rfl) (fun _ _ _ h => h) (by assumption) (Or.inl ⟨by kernel_rfl, ?y283⟩) ?r283
                      case y283 => (intro w hSw; (try dsimp only at hSw); go_simp; all_goals with_reducible rfl)
                      try simp only [Act.put, List.setIfInBounds_toArray, List.set_cons_zero, List.set_cons_succ]
                      refine wpAnyL_take (i := 2) (oi := _) (v := ?v284) rfl (by kernel_rfl) (fun _ _ _ h => h) (by assumption) (Or.inl ⟨by kernel_rfl, ?y284⟩) ?r284
                      case y284 => (intro w hSw; (try dsimp only at hSw); go_simp; all_goals with_reducible rfl)
                      try simp only [Act.put, List.setIfInBounds_toArray, List.set_cons_zero, List.set_cons_succ]
                      refine wpAnyL_take (i := 3) (oi := _) (v := ?v285) rfl (by kernel_rfl) (fun _ _ _ h => h) (by assumption) (Or.inl ⟨by kernel_rfl, ?y285⟩) ?r285
                      case y285 => (intro w hSw; (try dsimp only at hSw); go_simp; all_goals with_reducible rfl)
                      try simp only [Act.put, List.setIfInBounds_toArray, List.set_cons_zero, List.set_cons_succ]
                      refine wpAnyL_take (i := 4) (oi := _) (v := ?v286) rfl (by kernel_rfl) (fun _ _ _ h => h) (by assumption) (Or.inl ⟨by kernel_rfl, ?y286⟩) ?r286
                      case y286 => (intro w hSw; (try dsimp only at hSw); go_simp; all_goals with_reducible rfl)
                      try simp only [Act.put, List.setIfInBounds_toArray, List.set_cons_zero, List.set_cons_succ]
                      refine wpAnyL_take (i := 5) (oi := _) (v := ?v287) rfl (by kernel_rfl) (fun _ _ _ h => h) (by assumption) (Or.inl ⟨by kernel_rfl, ?y287⟩) ?r287
                      case y287 => (intro w hSw; (try dsimp only at hSw); go_simp; all_goals with_reducible rfl)
                      try simp only [Act.put, List.setIfInBounds_toArray, List.set_cons_zero, List.set_cons_succ]
                      refine wpAnyL_take (i := 6) (oi := _) (v := ?v288) rfl (by kernel_rfl) (fun _ _ _ h => h) (by assumption) (Or.inl ⟨by kernel_rfl, ?y288⟩) ?r288
                      case y288 => (intro w hSw; (try dsimp only at hSw); go_simp; all_goals with_reducible rfl)
                      try simp only [Act.put, List.setIfInBounds_toArray, List.set_cons_zero, List.set_cons_succ]
                      refine wpAnyL_take (i := 7) (oi := _) (v := ?v289) rfl (by kernel_rfl) (fun _ _ _ h => h) (by assumption) (Or.inl ⟨by kernel_rfl, ?y289⟩) ?r289
                      case y289 => (intro w hSw; (try dsimp only at hSw); go_simp; all_goals with_reducible rfl)
                      try simp only [Act.put, List.setIfInBounds_toArray, List.set_cons_zero, List.set_cons_succ]
                      refine wpAnyL_take (i := 8) (oi := _) (v := ?v290) rfl (by kernel_rfl) (fun _ _ _ h => h) (by assumption) (Or.inl ⟨by kernel_rfl, ?y290⟩) ?r290
                      case y290 => (intro w hSw; (try dsimp only at hSw); go_simp; all_goals with_reducible rfl)
                      try simp only [Act.put, List.setIfInBounds_toArray, List.set_cons_zero, List.set_cons_succ]
                      refine wpAnyL_take (i := 9) (oi := _) (v := ?v291) rfl (by kernel_rfl) (fun _ _ _ h => h) (by assumption) (Or.inl ⟨by kernel_rfl, ?y291⟩) ?r291
                      case y291 => (intro w hSw; (try dsimp only at hSw); go_simp; all_goals with_reducible rfl)
                      try simp only [Act.put, List.setIfInBounds_toArray, List.set_cons_zero, List.set_cons_succ]
                      refine wpAnyL_take (i := 10) (oi := _) (v := ?v292) rfl (by kernel_rfl) (fun _ _ _ h => h) (by assumption) (Or.inl ⟨by kernel_rfl, ?y292⟩) ?r292
                      case y292 => (intro w hSw; (try dsimp only at hSw); go_simp; all_goals with_reducible rfl)
                      try simp only [Act.put, List.setIfInBounds_toArray, List.set_cons_zero, List.set_cons_succ]
                      refine wpAnyL_take (i := 11) (oi := _) (v := ?v293) rfl (by kernel_rfl) (fun _ _ _ h => h) (by assumption) (Or.inl ⟨by kernel_rfl, ?y293⟩) ?r293
                      case y293 => (intro w hSw; (try dsimp only at hSw); go_simp; all_goals with_reducible rfl)
                      try simp only [Act.put, List.setIfInBounds_toArray, List.set_cons_zero, List.set_cons_succ]
                      refine wpAnyL_take (i := 12) (oi := _) (v := ?v294) rfl (by kernel_rfl) (fun _ _ _ h => h) (by assumption) (Or.inl ⟨by kernel_rfl, ?y294⟩) ?r294
                      case y294 => (intro w hSw; (try dsimp only at hSw); go_simp; all_goals with_reducible rfl)
                      try simp only [Act.put, List.setIfInBounds_toArray, List.set_cons_zero, List.set_cons_succ]
                      refine wpAnyL_take (i := 13) (oi := _) (v := ?v295) rfl (by kernel_rfl) (fun _ _ _ h => h) (by assumption) (Or.inl ⟨by kernel_rfl, ?y295⟩) ?r295
                      case y295 => (intro w hSw; (try dsimp only at hSw); go_simp; all_goals with_reducible rfl)
                      try simp only [Act.put, List.setIfInBounds_toArray, List.set_cons_zero, List.set_cons_succ]
                      refine wpAnyL_take (i := 14) (oi := _) (v := ?v296) rfl (by kernel_rfl) (fun _ _ _ h => h) (by assumption) (Or.inl ⟨by kernel_rfl, ?y296⟩) ?r296
                      case y296 => (intro w hSw; (try dsimp only at hSw); go_simp; all_goals with_reducible rfl)
                      try simp only [Act.put, List.setIfInBounds_toArray, List.set_cons_zero, List.set_cons_succ]
                      refine wpAnyL_take (i := 15) (oi := _) (v := ?v297) rfl (by kernel_rfl) (fun _ _ _ h => h) (by assumption) (Or.inl ⟨by kernel_rfl, ?y297⟩) ?r297
                      case y297 => (intro w hSw; (try dsimp only at hSw); go_simp; all_goals with_reducible rfl)
                      try simp only [Act.put, List.setIfInBounds_toArray, List.set_cons_zero, List.set_cons_succ]
                      refine wpAnyL_take (i := 16) (oi := _) (v := ?v298) rfl (by kernel_rfl) (fun _ _ _ h => h) (by assumption) (Or.inl ⟨by kernel_rfl, ?y298⟩) ?r298
                      case y298 => (intro w hSw; (try dsimp only at hSw); go_simp; all_goals with_reducible rfl)
                      try simp only [Act.put, List.setIfInBounds_toArray, List.set_cons_zero, List.set_cons_succ]
                      refine wpAnyL_take (i := 17) (oi := _) (v := ?v299) rfl (by kernel_rfl) (fun _ _ _ h => h) (by assumption) (Or.inl ⟨by kernel_rfl, ?y299⟩) ?r299
                      case y299 => (intro w hSw; (try dsimp only at hSw); go_simp; all_goals with_reducible rfl)
                      try simp only [Act.put, List.setIfInBounds_toArray, List.set_cons_zero, List.set_cons_succ]
                      refine wpAnyL_take (i := 18) (oi := _) (v := undef) rfl (by kernel_rfl) (fun _ _ _ h => h) (by assumption) (Or.inr ⟨by kernel_rfl, rfl⟩) ?_
                      try simp only [Act.put, List.setIfInBounds_toArray, List.set_cons_zero, List.set_cons_succ]
                      refine wpAnyL_take (i := 19) (oi := _) (v := undef) rfl (by kernel_rfl) (fun _ _ _ h => h) (by assumption) (Or.inr ⟨by kernel_rfl, rfl⟩) ?_
                      try simp only [Act.put, List.setIfInBounds_toArray, List.set_cons_zero, List.set_cons_succ]
                      refine wpAnyL_take (i := 20) (oi := _) (v := undef) rfl (by kernel_rfl) (fun _ _ _ h => h) (by assumption) (Or.inr ⟨by kernel_rfl, rfl⟩) ?_
                      try simp only [Act.put, List.setIfInBounds_toArray, List.set_cons_zero, List.set_cons_succ]
                      refine wpAnyL_take (i := 21) (oi := _) (v := undef) rfl (by kernel_rfl) (fun _ _ _ h => h) (by assumption) (Or.inr ⟨by kernel_rfl, rfl⟩) ?_
                      try simp only [Act.put, List.setIfInBounds_toArray, List.set_cons_zero, List.set_cons_succ]
                      refine wpAnyL_take (i := 22) (oi := _) (v := undef) rfl (by kernel_rfl) (fun _ _ _ h => h) (by assumption) (Or.inr ⟨by kernel_rfl, rfl⟩) ?_
                      try simp only [Act.put, List.setIfInBounds_toArray, List.set_cons_zero, List.set_cons_succ]
                      refine wpAnyL_take (i := 23) (oi := _) (v := undef) rfl (by kernel_rfl) (fun _ _ _ h => h) (by assumption) (Or.inr ⟨by kernel_rfl, rfl⟩) ?_
                      try simp only [Act.put, List.setIfInBounds_toArray, List.set_cons_zero, List.set_cons_succ]
                      refine wpAnyL_take (i := 24) (oi := _) (v := undef) rfl (by kernel_rfl) (fun _ _ _ h => h) (by assumption) (Or.inr ⟨by kernel_rfl, rfl⟩) ?_
                      try simp only [Act.put, List.setIfInBounds_toArray, List.set_cons_zero, List.set_cons_succ]
                      refine wpAnyL_take (i := 25) (oi := _) (v := undef) rfl (by kernel_rfl) (fun _ _ _ h => h) (by assumption) (Or.inr ⟨by kernel_rfl, rfl⟩) ?_
                      try simp only [Act.put, List.setIfInBounds_toArray, List.set_cons_zero, List.set_cons_succ]
                      refine wpAnyL_take (i := 26) (oi := _) (v := undef) rfl (by kernel_rfl) (fun _ _ _ h => h) (by assumption) (Or.inr ⟨by kernel_rfl, rfl⟩) ?_
                      try simp only [Act.put, List.setIfInBounds_toArray, List.set_cons_zero, List.set_cons_succ]
                      refine wpAnyL_take (i := 27) (oi := _) (v := undef) rfl (by kernel_rfl) (fun _ _ _ h => h) (by assumption) (Or.inr ⟨by kernel_rfl, rfl⟩) ?_
                      try simp only [Act.put, List.setIfInBounds_toArray, List.set_cons_zero, List.set_cons_succ]
                      refine wpAnyL_take (i := 28) (oi := _) (v := undef) rfl (by kernel_rfl) (fun _ _ _ h => h) (by assumption) (Or.inr ⟨by kernel_rfl, rfl⟩) ?_
                      try simp only [Act.put, List.setIfInBounds_toArray, List.set_cons_zero, List.set_cons_succ]
                      refine wpAnyL_take (i := 29) (oi := _) (v := undef) rfl (by kernel_rfl) (fun _ _ _ h => h) (by assumption) (Or.inr ⟨by kernel_rfl, rfl⟩) ?_
                      try simp only [Act.put, List.setIfInBounds_toArray, List.set_cons_zero, List.set_cons_succ]
                      refine wpAnyL_take (i := 30) (oi := _) (v := ?v312) rfl (by kernel_rfl) (fun _ _ _ h => h) (by assumption) (Or.inl ⟨by kernel_rfl, ?y312⟩) ?r312
                      case y312 => (intro w hSw; (try dsimp only at hSw); go_simp; all_goals with_reducible rfl)
                      try simp only [Act.put, List.setIfInBounds_toArray, List.set_cons_zero, List.set_cons_succ]
                      refine wpAnyL_take (i := 31) (oi := _) (v := ?v313) rfl (by kernel_rfl) (fun _ _ _ h => h) (by assumption) (Or.inl ⟨by kernel_rfl, ?y313⟩) ?r313
                      case y313 => (intro w hSw; (try dsimp only at hSw); go_simp; all_goals with_reducible rfl)
                      try simp only [Act.put, List.setIfInBounds_toArray, List.set_cons_zero, List.set_cons_succ]
                      refine wpAnyL_take (i := 32) (oi := _) (v := ?v314) rfl (by kernel_rfl) (fun _ _ _ h => h) (by assumption) (Or.inl ⟨by kernel_rfl, ?y314⟩) ?r314
                      case y314 => (intro w hSw; (try dsimp only at hSw); go_simp; all_goals with_reducible rfl)
                      try simp only [Act.put, List.setIfInBounds_toArray, List.set_cons_zero, List.set_cons_succ]
                      refine wpAnyL_take (i := 33) (oi := _) (v := ?v315) rfl (by kernel_rfl) (fun _ _ _ h => h) (by assumption) (Or.inl ⟨by kernel_rfl, ?y315⟩) ?r315
                      case y315 => (intro w hSw; (try dsimp only at hSw); go_simp; all_goals with_reducible rfl)
                      try simp only [Act.put, List.setIfInBounds_toArray, List.set_cons_zero, List.set_cons_succ]
                      refine wpAnyL_take (i := 34) (oi := _) (v := ?v316) rfl (by kernel_rfl) (fun _ _ _ h => h) (by assumption) (Or.inl ⟨by kernel_rfl, ?y316⟩) ?r316
                      case y316 => (intro w hSw; (try dsimp only at hSw); go_simp; all_goals with_reducible rfl)
                      try simp only [Act.put, List.setIfInBounds_toArray, List.set_cons_zero, List.set_cons_succ]
                      refine wpAnyL_step (j := 35) (o := _) (by kernel_rfl) rfl (fun K hK => ?_)
                      (go_simp; go_at_call 31; refine (do_any M (65 * evSum l (o.take k)) w.heap.size dc (heapAll l (o.take k)) dA evs th hxl hsl.out hel.out _ (hH0.out.drewN _).drew (hev.out _ (HB0.out _ (hF0.out.drewN _).drew)) HMB.out.1).mono ?_; rintro e w4 ⟨rfl, hH4, hM4⟩; rw [HOKV.out])
                      refine hK _ _ ?_ (fun hHeld => ?_)
                      · ((try dsimp only); (exact HS.out _ ((((MapF.refl M w0).drewN _).drew).trans hM4)))
                      clear hK K
                      try simp only [Act.put, List.setIfInBounds_toArray, List.set_cons_zero, List.set_cons_succ]
                      refine wpAnyL_take (i := 36) (oi := _) (v := ?v318) rfl (by kernel_rfl) (fun _ _ _ h => h) (by assumption) (Or.inl ⟨by kernel_rfl, ?y318⟩) ?r318
                      case y318 => (intro w hSw; (try dsimp only at hSw); go_simp; all_goals with_reducible rfl)
                      try simp only [Act.put, List.setIfInBounds_toArray, List.set_cons_zero, List.set_cons_succ]
                      refine wpAnyL_last (j := 37) (o := _) (by kernel_rfl) rfl (by rfl) (by kernel_rfl) (fun K hK => ?_)
                      go_simp
                      (refine hK _ _ ?_; clear hK K)
                      try simp only [Act.put, List.setIfInBounds_toArray, List.set_cons_zero, List.set_cons_succ]
                      unfold onlyN
                      have hFE := Lib.hid ((hF0.out.drewN _).drew.trans hM4)
                      have hHE : Hid (HeapAt Tryz.prog 2 w4 M (65 * evSum l (o.take (k + 1))) (heapAll l (o.take (k + 1)))) := Lib.hid (by rw [hha.out]; exact hH4.mono (by rw [hsu.out]; omega))
                      clear hH4 hM4 hHeld
                      go_wp2_with fail
                      go_roundw
                      case rel => exact ⟨k + 1, by go_num, by omega, F, hHE, hFE⟩
                      case measure => simp [intOf]; omega
                  · by_cases hyp : ypl = pl
                    · have t5 : (ypl == pl) = true := by simpa using hyp
                      have t6 : decide (ypl = pl) = true := by simpa using hyp
                      have HTW : Hid (twinB l (pvO o k) ⟨th, xkd, bg, en, ck, pl, true, dA, dc, evs⟩ = true) := Lib.hid (by rw [HTW0.out, t6]; rfl)
                      clear hyp
                      have F : Hid ((.tuple #[.int .i64 (i : Int), .int .i64 16] : Value) = .tuple #[.int .i64 res.1, .int .i64 res.2]) := Lib.hid (by
                        rw [hst.out, show orderedB l (pvO o k) ⟨th, xkd, bg, en, ck, pl, true, dA, dc, evs⟩ (o.drop (k + 1)) (heapAll l (o.take k)) = false by rw [hle.out, HLV.out, t2, HTW.out]; simp]; rfl)
                      clear hst hpv hha hsu hH0
                      go_wp2_with fail
                      go_quiet (fail)
                      go_wp2_with fail
                      refine wp_region_Ln (l := 37) (S := (fun W1 => (W1.cell? ⟨X, 5, none⟩ = some (.int .i64 pl) ∧ W1.cell? ⟨X, 6, none⟩ = some (.bool true) ∧ W1.cell? ⟨X, 7, none⟩ = some (.slice dA evs.length dc)) ∧ W1.cell? ⟨w.heap.size, 0, none⟩ = some (.slice (some ⟨b, off, none⟩) l.length c) ∧ W1.cell? ⟨gb, goff + k', none⟩ = some (.int .i64 (i' : Int)) ∧ W1.cell? ⟨b, off + i' * 8 + 6, none⟩ = some (.bool true) ∧ W1.cell? ⟨b, off + i' * 8 + 5, none⟩ = some (.int .i64 ypl))) (by kernel_rfl) ?_ (fun hHeld => ?_)
                      · ((try dsimp only); (exact HS.out _ (((MapF.refl M w0).drewN _).drew)))
                      refine wpAnyL_take (i := 0) (oi := _) (v := ?v320) rfl (by kernel_rfl) (fun _ _ _ h => h) (by assumption) (Or.inl ⟨by kernel_rfl, ?y320⟩) ?r320
                      case y320 => (intro w hSw; (try dsimp only at hSw); go_simp; all_goals with_reducible rfl)
                      try simp only [Act.put, List.setIfInBounds_toArray, List.set_cons_zero, List.set_cons_succ]
                      refine wpAnyL_take (i := 1) (oi := _) (v := ?v321) rfl (by kernel_rfl) (fun _ _ _ h => h) (by assumption) (Or.inl ⟨by kernel_rfl, ?y321⟩) ?r321
                      case y321 => (intro w hSw; (try dsimp only at hSw); go_simp; all_goals with_reducible rfl)
                      try simp only [Act.put, List.setIfInBounds_toArray, List.set_cons_zero, List.set_cons_succ]
                      refine wpAnyL_take (i := 2) (oi := _) (v := ?v322) rfl (by kernel_rfl) (fun _ _ _ h => h) (by assumption) (Or.inl ⟨by kernel_rfl, ?y322⟩) ?r322
                      case y322 => (intro w hSw; (try dsimp only at hSw); go_simp; all_goals with_reducible rfl)
                      try simp only [Act.put, List.setIfInBounds_toArray, List.set_cons_zero, List.set_cons_succ]
                      refine wpAnyL_take (i := 3) (oi := _) (v := ?v323) rfl (by kernel_rfl) (fun _ _ _ h => h) (by assumption) (Or.inl ⟨by kernel_rfl, ?y323⟩) ?r323
                      case y323 => (intro w hSw; (try dsimp only at hSw); go_simp; all_goals with_reducible rfl)
                      try simp only [Act.put, List.setIfInBounds_toArray, List.set_cons_zero, List.set_cons_succ]
                      refine wpAnyL_take (i := 4) (oi := _) (v := ?v324) rfl (by kernel_rfl) (fun _ _ _ h => h) (by assumption) (Or.inl ⟨by kernel_rfl, ?y324⟩) ?r324
                      case y324 => (intro w hSw; (try dsimp only at hSw); go_simp; all_goals with_reducible rfl)
                      try simp only [Act.put, List.setIfInBounds_toArray, List.set_cons_zero, List.set_cons_succ]
                      refine wpAnyL_take (i := 5) (oi := _) (v := ?v325) rfl (by kernel_rfl) (fun _ _ _ h => h) (by assumption) (Or.inl ⟨by kernel_rfl, ?y325⟩) ?r325
                      case y325 => (intro w hSw; (try dsimp only at hSw); go_simp; all_goals with_reducible rfl)
                      try simp only [Act.put, List.setIfInBounds_toArray, List.set_cons_zero, List.set_cons_succ]
                      refine wpAnyL_take (i := 6) (oi := _) (v := ?v326) rfl (by kernel_rfl) (fun _ _ _ h => h) (by assumption) (Or.inl ⟨by kernel_rfl, ?y326⟩) ?r326
                      case y326 => (intro w hSw; (try dsimp only at hSw); go_simp; all_goals with_reducible rfl)
                      try simp only [Act.put, List.setIfInBounds_toArray, List.set_cons_zero, List.set_cons_succ]
                      refine wpAnyL_take (i := 7) (oi := _) (v := ?v327) rfl (by kernel_rfl) (fun _ _ _ h => h) (by assumption) (Or.inl ⟨by kernel_rfl, ?y327⟩) ?r327
                      case y327 => (intro w hSw; (try dsimp only at hSw); go_simp; all_goals with_reducible rfl)
                      try simp only [Act.put, List.setIfInBounds_toArray, List.set_cons_zero, List.set_cons_succ]
                      refine wpAnyL_take (i := 8) (oi := _) (v := ?v328) rfl (by kernel_rfl) (fun _ _ _ h => h) (by assumption) (Or.inl ⟨by kernel_rfl, ?y328⟩) ?r328
                      case y328 => (intro w hSw; (try dsimp only at hSw); go_simp; all_goals with_reducible rfl)
                      try simp only [Act.put, List.setIfInBounds_toArray, List.set_cons_zero, List.set_cons_succ]
                      refine wpAnyL_take (i := 9) (oi := _) (v := ?v329) rfl (by kernel_rfl) (fun _ _ _ h => h) (by assumption) (Or.inl ⟨by kernel_rfl, ?y329⟩) ?r329
                      case y329 => (intro w hSw; (try dsimp only at hSw); go_simp; all_goals with_reducible rfl)
                      try simp only [Act.put, List.setIfInBounds_toArray, List.set_cons_zero, List.set_cons_succ]
                      refine wpAnyL_take (i := 10) (oi := _) (v := ?v330) rfl (by kernel_rfl) (fun _ _ _ h => h) (by assumption) (Or.inl ⟨by kernel_rfl, ?y330⟩) ?r330
                      case y330 => (intro w hSw; (try dsimp only at hSw); go_simp; all_goals with_reducible rfl)
                      try simp only [Act.put, List.setIfInBounds_toArray, List.set_cons_zero, List.set_cons_succ]
                      refine wpAnyL_take (i := 11) (oi := _) (v := ?v331) rfl (by kernel_rfl) (fun _ _ _ h => h) (by assumption) (Or.inl ⟨by kernel_rfl, ?y331⟩) ?r331
                      case y331 => (intro w hSw; (try dsimp only at hSw); go_simp; all_goals with_reducible rfl)
                      try simp only [Act.put, List.setIfInBounds_toArray, List.set_cons_zero, List.set_cons_succ]
                      refine wpAnyL_take (i := 12) (oi := _) (v := ?v332) rfl (by kernel_rfl) (fun _ _ _ h => h) (by assumption) (Or.inl ⟨by kernel_rfl, ?y332⟩) ?r332
                      case y332 => (intro w hSw; (try dsimp only at hSw); go_simp; all_goals with_reducible rfl)
                      try simp only [Act.put, List.setIfInBounds_toArray, List.set_cons_zero, List.set_cons_succ]
                      refine wpAnyL_take (i := 13) (oi := _) (v := ?v333) rfl (by kernel_rfl) (fun _ _ _ h => h) (by assumption) (Or.inl ⟨by kernel_rfl, ?y333⟩) ?r333
                      case y333 => (intro w hSw; (try dsimp only at hSw); go_simp; all_goals with_reducible rfl)
                      try simp only [Act.put, List.setIfInBounds_toArray, List.set_cons_zero, List.set_cons_succ]
                      refine wpAnyL_take (i := 14) (oi := _) (v := ?v334) rfl (by kernel_rfl) (fun _ _ _ h => h) (by assumption) (Or.inl ⟨by kernel_rfl, ?y334⟩) ?r334
                      case y334 => (intro w hSw; (try dsimp only at hSw); go_simp; all_goals with_reducible rfl)
                      try simp only [Act.put, List.setIfInBounds_toArray, List.set_cons_zero, List.set_cons_succ]
                      refine wpAnyL_take (i := 15) (oi := _) (v := ?v335) rfl (by kernel_rfl) (fun _ _ _ h => h) (by assumption) (Or.inl ⟨by kernel_rfl, ?y335⟩) ?r335
                      case y335 => (intro w hSw; (try dsimp only at hSw); go_simp; all_goals with_reducible rfl)
                      try simp only [Act.put, List.setIfInBounds_toArray, List.set_cons_zero, List.set_cons_succ]
                      refine wpAnyL_take (i := 16) (oi := _) (v := ?v336) rfl (by kernel_rfl) (fun _ _ _ h => h) (by assumption) (Or.inl ⟨by kernel_rfl, ?y336⟩) ?r336
                      case y336 => (intro w hSw; (try dsimp only at hSw); go_simp; all_goals with_reducible rfl)
                      try simp only [Act.put, List.setIfInBounds_toArray, List.set_cons_zero, List.set_cons_succ]
                      refine wpAnyL_take (i := 17) (oi := _) (v := ?v337) rfl (by kernel_rfl) (fun _ _ _ h => h) (by assumption) (Or.inl ⟨by kernel_rfl, ?y337⟩) ?r337
                      case y337 => (intro w hSw; (try dsimp only at hSw); go_simp; all_goals with_reducible rfl)
                      try simp only [Act.put, List.setIfInBounds_toArray, List.set_cons_zero, List.set_cons_succ]
                      refine wpAnyL_take (i := 18) (oi := _) (v := ?v338) rfl (by kernel_rfl) (fun _ _ _ h => h) (by assumption) (Or.inl ⟨by kernel_rfl, ?y338⟩) ?r338
                      case y338 => (intro w hSw; (try dsimp only at hSw); go_simp; all_goals with_reducible rfl)
                      try simp only [Act.put, List.setIfInBounds_toArray, List.set_cons_zero, List.set_cons_succ]
                      refine wpAnyL_take (i := 19) (oi := _) (v := ?v339) rfl (by kernel_rfl) (fun _ _ _ h => h) (by assumption) (Or.inl ⟨by kernel_rfl, ?y339⟩) ?r339
                      case y339 => (intro w hSw; (try dsimp only at hSw); go_simp; all_goals with_reducible rfl)
                      try simp only [Act.put, List.setIfInBounds_toArray, List.set_cons_zero, List.set_cons_succ]
                      refine wpAnyL_take (i := 20) (oi := _) (v := ?v340) rfl (by kernel_rfl) (fun _ _ _ h => h) (by assumption) (Or.inl ⟨by kernel_rfl, ?y340⟩) ?r340
                      case y340 => (intro w hSw; (try dsimp only at hSw); go_simp; all_goals with_reducible rfl)
                      try simp only [Act.put, List.setIfInBounds_toArray, List.set_cons_zero, List.set_cons_succ]
                      refine wpAnyL_take (i := 21) (oi := _) (v := ?v341) rfl (by kernel_rfl) (fun _ _ _ h => h) (by assumption) (Or.inl ⟨by kernel_rfl, ?y341⟩) ?r341
                      case y341 => (intro w hSw; (try dsimp only at hSw); go_simp; all_goals with_reducible rfl)
                      try simp only [Act.put, List.setIfInBounds_toArray, List.set_cons_zero, List.set_cons_succ]
                      refine wpAnyL_take (i := 22) (oi := _) (v := ?v342) rfl (by kernel_rfl) (fun _ _ _ h => h) (by assumption) (Or.inl ⟨by kernel_rfl, ?y342⟩) ?r342
                      case y342 => (intro w hSw; (try dsimp only at hSw); go_simp; all_goals with_reducible rfl)
                      try simp only [Act.put, List.setIfInBounds_toArray, List.set_cons_zero, List.set_cons_succ]
                      refine wpAnyL_take (i := 23) (oi := _) (v := ?v343) rfl (by kernel_rfl) (fun _ _ _ h => h) (by assumption) (Or.inl ⟨by kernel_rfl, ?y343⟩) ?r343
                      case y343 => (intro w hSw; (try dsimp only at hSw); go_simp; all_goals with_reducible rfl)
                      try simp only [Act.put, List.setIfInBounds_toArray, List.set_cons_zero, List.set_cons_succ]
                      refine wpAnyL_take (i := 24) (oi := _) (v := ?v344) rfl (by kernel_rfl) (fun _ _ _ h => h) (by assumption) (Or.inl ⟨by kernel_rfl, ?y344⟩) ?r344
                      case y344 => (intro w hSw; (try dsimp only at hSw); go_simp; all_goals with_reducible rfl)
                      try simp only [Act.put, List.setIfInBounds_toArray, List.set_cons_zero, List.set_cons_succ]
                      refine wpAnyL_take (i := 25) (oi := _) (v := ?v345) rfl (by kernel_rfl) (fun _ _ _ h => h) (by assumption) (Or.inl ⟨by kernel_rfl, ?y345⟩) ?r345
                      case y345 => (intro w hSw; (try dsimp only at hSw); go_simp; all_goals with_reducible rfl)
                      try simp only [Act.put, List.setIfInBounds_toArray, List.set_cons_zero, List.set_cons_succ]
                      refine wpAnyL_take (i := 26) (oi := _) (v := ?v346) rfl (by kernel_rfl) (fun _ _ _ h => h) (by assumption) (Or.inl ⟨by kernel_rfl, ?y346⟩) ?r346
                      case y346 => (intro w hSw; (try dsimp only at hSw); go_simp; all_goals with_reducible rfl)
                      try simp only [Act.put, List.setIfInBounds_toArray, List.set_cons_zero, List.set_cons_succ]
                      refine wpAnyL_take (i := 27) (oi := _) (v := ?v347) rfl (by kernel_rfl) (fun _ _ _ h => h) (by assumption) (Or.inl ⟨by kernel_rfl, ?y347⟩) ?r347
                      case y347 => (intro w hSw; (try dsimp only at hSw); go_simp; all_goals with_reducible rfl)
                      try simp only [Act.put, List.setIfInBounds_toArray, List.set_cons_zero, List.set_cons_succ]
                      refine wpAnyL_take (i := 28) (oi := _) (v := ?v348) rfl (by kernel_rfl) (fun _ _ _ h => h) (by assumption) (Or.inl ⟨by kernel_rfl, ?y348⟩) ?r348
                      case y348 => (intro w hSw; (try dsimp only at hSw); go_simp; all_goals with_reducible rfl)
                      try simp only [Act.put, List.setIfInBounds_toArray, List.set_cons_zero, List.set_cons_succ]
                      refine wpAnyL_take (i := 29) (oi := _) (v := ?v349) rfl (by kernel_rfl) (fun _ _ _ h => h) (by assumption) (Or.inl ⟨by kernel_rfl, ?y349⟩) ?r349
                      case y349 => (intro w hSw; (try dsimp only at hSw); go_simp; all_goals with_reducible rfl)
                      try simp only [Act.put, List.setIfInBounds_toArray, List.set_cons_zero, List.set_cons_succ]
                      refine wpAnyL_take (i := 30) (oi := _) (v := ?v350) rfl (by kernel_rfl) (fun _ _ _ h => h) (by assumption) (Or.inl ⟨by kernel_rfl, ?y350⟩) ?r350
                      case y350 => (intro w hSw; (try dsimp only at hSw); go_simp; all_goals with_reducible rfl)
                      try simp only [Act.put, List.setIfInBounds_toArray, List.set_cons_zero, List.set_cons_succ]
                      refine wpAnyL_take (i := 31) (oi := _) (v := ?v351) rfl (by kernel_rfl) (fun _ _ _ h => h) (by assumption) (Or.inl ⟨by kernel_rfl, ?y351⟩) ?r351
                      case y351 => (intro w hSw; (try dsimp only at hSw); go_simp; all_goals with_reducible rfl)
                      try simp only [Act.put, List.setIfInBounds_toArray, List.set_cons_zero, List.set_cons_succ]
                      refine wpAnyL_take (i := 32) (oi := _) (v := undef) rfl (by kernel_rfl) (fun _ _ _ h => h) (by assumption) (Or.inr ⟨by kernel_rfl, rfl⟩) ?_
                      try simp only [Act.put, List.setIfInBounds_toArray, List.set_cons_zero, List.set_cons_succ]
                      refine wpAnyL_take (i := 33) (oi := _) (v := undef) rfl (by kernel_rfl) (fun _ _ _ h => h) (by assumption) (Or.inr ⟨by kernel_rfl, rfl⟩) ?_
                      try simp only [Act.put, List.setIfInBounds_toArray, List.set_cons_zero, List.set_cons_succ]
                      refine wpAnyL_take (i := 34) (oi := _) (v := undef) rfl (by kernel_rfl) (fun _ _ _ h => h) (by assumption) (Or.inr ⟨by kernel_rfl, rfl⟩) ?_
                      try simp only [Act.put, List.setIfInBounds_toArray, List.set_cons_zero, List.set_cons_succ]
                      refine wpAnyL_take (i := 35) (oi := _) (v := undef) rfl (by kernel_rfl) (fun _ _ _ h => h) (by assumption) (Or.inr ⟨by kernel_rfl, rfl⟩) ?_
                      try simp only [Act.put, List.setIfInBounds_toArray, List.set_cons_zero, List.set_cons_succ]
                      refine wpAnyL_take (i := 36) (oi := _) (v := undef) rfl (by kernel_rfl) (fun _ _ _ h => h) (by assumption) (Or.inr ⟨by kernel_rfl, rfl⟩) ?_
                      try simp only [Act.put, List.setIfInBounds_toArray, List.set_cons_zero, List.set_cons_succ]
                      refine wpAnyL_last (j := 37) (o := _) (by kernel_rfl) rfl (by rfl) (by kernel_rfl) (fun K hK => ?_)
                      go_simp
                      (refine hK _ _ ?_; clear hK K)
                      try simp only [Act.put, List.setIfInBounds_toArray, List.set_cons_zero, List.set_cons_succ]
                      unfold onlyN
                      clear hHeld
                      go_wp2_with fail
                      refine ⟨by simp, .inl ⟨_, _, rfl, run_takeDeferred (HD.out _ (hF0.out.drewN _).drew), ?_⟩⟩
                      exact ⟨.tuple #[.int .i64 (i : Int), .int .i64 16], by simp [results, Tryz.results8, go_sem], congrArg _ F.out, below_put (HB0.out _ (hF0.out.drewN _).drew) HMB.out.2 _⟩
                    · have t5 : (ypl == pl) = false := by simpa using hyp
                      have t6 : decide (ypl = pl) = false := by simpa using hyp
                      have HTW : Hid (twinB l (pvO o k) ⟨th, xkd, bg, en, ck, pl, true, dA, dc, evs⟩ = false) := Lib.hid (by rw [HTW0.out, t6]; rfl)
                      clear hyp
                      have hto : Hid (orderedB l (pvO o k) ⟨th, xkd, bg, en, ck, pl, true, dA, dc, evs⟩ (o.drop (k + 1)) (heapAll l (o.take k)) = okV (heapAll l (o.take k)) evs) := Lib.hid (by rw [hle.out, HLV.out, t2, HTW.out]; simp [placedB, HP.out])
                      cases hok : okV (heapAll l (o.take k)) evs
                      · have HOKV := Lib.hid hok
                        have F : Hid ((.tuple #[.int .i64 (i : Int), .int .i64 16] : Value) = .tuple #[.int .i64 res.1, .int .i64 res.2]) := Lib.hid (by rw [hst.out, hto.out, hok]; rfl)
                        clear hok hto
                        go_wp2_with fail
                        go_quiet (fail)
                        go_wp2_with fail
                        refine wp_region_Ln (l := 37) (S := (fun W1 => (W1.cell? ⟨X, 5, none⟩ = some (.int .i64 pl) ∧ W1.cell? ⟨X, 6, none⟩ = some (.bool true) ∧ W1.cell? ⟨X, 7, none⟩ = some (.slice dA evs.length dc)) ∧ W1.cell? ⟨w.heap.size, 0, none⟩ = some (.slice (some ⟨b, off, none⟩) l.length c) ∧ W1.cell? ⟨gb, goff + k', none⟩ = some (.int .i64 (i' : Int)) ∧ W1.cell? ⟨b, off + i' * 8 + 6, none⟩ = some (.bool true) ∧ W1.cell? ⟨b, off + i' * 8 + 5, none⟩ = some (.int .i64 ypl))) (by kernel_rfl) ?_ (fun hHeld => ?_)
                        · ((try dsimp only); (exact HS.out _ (((MapF.refl M w0).drewN _).drew)))
                        refine wpAnyL_take (i := 0) (oi := _) (v := ?v358) rfl (by kernel_rfl) (fun _ _ _ h => h) (by assumption) (Or.inl ⟨by kernel_rfl, ?y358⟩) ?r358
                        case y358 => (intro w hSw; (try dsimp only at hSw); go_simp; all_goals with_reducible rfl)
                        try simp only [Act.put, List.setIfInBounds_toArray, List.set_cons_zero, List.set_cons_succ]
                        refine wpAnyL_take (i := 1) (oi := _) (v := ?v359) rfl (by kernel_rfl) (fun _ _ _ h => h) (by assumption) (Or.inl ⟨by kernel_rfl, ?y359⟩) ?r359
                        case y359 => (intro w hSw; (try dsimp only at hSw); go_simp; all_goals with_reducible rfl)
                        try simp only [Act.put, List.setIfInBounds_toArray, List.set_cons_zero, List.set_cons_succ]
                        refine wpAnyL_take (i := 2) (oi := _) (v := ?v360) rfl (by kernel_rfl) (fun _ _ _ h => h) (by assumption) (Or.inl ⟨by kernel_rfl, ?y360⟩) ?r360
                        case y360 => (intro w hSw; (try dsimp only at hSw); go_simp; all_goals with_reducible rfl)
                        try simp only [Act.put, List.setIfInBounds_toArray, List.set_cons_zero, List.set_cons_succ]
                        refine wpAnyL_take (i := 3) (oi := _) (v := ?v361) rfl (by kernel_rfl) (fun _ _ _ h => h) (by assumption) (Or.inl ⟨by kernel_rfl, ?y361⟩) ?r361
                        case y361 => (intro w hSw; (try dsimp only at hSw); go_simp; all_goals with_reducible rfl)
                        try simp only [Act.put, List.setIfInBounds_toArray, List.set_cons_zero, List.set_cons_succ]
                        refine wpAnyL_take (i := 4) (oi := _) (v := ?v362) rfl (by kernel_rfl) (fun _ _ _ h => h) (by assumption) (Or.inl ⟨by kernel_rfl, ?y362⟩) ?r362
                        case y362 => (intro w hSw; (try dsimp only at hSw); go_simp; all_goals with_reducible rfl)
                        try simp only [Act.put, List.setIfInBounds_toArray, List.set_cons_zero, List.set_cons_succ]
                        refine wpAnyL_take (i := 5) (oi := _) (v := ?v363) rfl (by kernel_rfl) (fun _ _ _ h => h) (by assumption) (Or.inl ⟨by kernel_rfl, ?y363⟩) ?r363
                        case y363 => (intro w hSw; (try dsimp only at hSw); go_simp; all_goals with_reducible rfl)
                        try simp only [Act.put, List.setIfInBounds_toArray, List.set_cons_zero, List.set_cons_succ]
                        refine wpAnyL_take (i := 6) (oi := _) (v := ?v364) rfl (by kernel_rfl) (fun _ _ _ h => h) (by assumption) (Or.inl ⟨by kernel_rfl, ?y364⟩) ?r364
                        case y364 => (intro w hSw; (try dsimp only at hSw); go_simp; all_goals with_reducible rfl)
                        try simp only [Act.put, List.setIfInBounds_toArray, List.set_cons_zero, List.set_cons_succ]
                        refine wpAnyL_take (i := 7) (oi := _) (v := ?v365) rfl (by kernel_rfl) (fun _ _ _ h => h) (by assumption) (Or.inl ⟨by kernel_rfl, ?y365⟩) ?r365
                        case y365 => (intro w hSw; (try dsimp only at hSw); go_simp; all_goals with_reducible rfl)
                        try simp only [Act.put, List.setIfInBounds_toArray, List.set_cons_zero, List.set_cons_succ]
                        refine wpAnyL_take (i := 8) (oi := _) (v := ?v366) rfl (by kernel_rfl) (fun _ _ _ h => h) (by assumption) (Or.inl ⟨by kernel_rfl, ?y366⟩) ?r366
                        case y366 => (intro w hSw; (try dsimp only at hSw); go_simp; all_goals with_reducible rfl)
                        try simp only [Act.put, List.setIfInBounds_toArray, List.set_cons_zero, List.set_cons_succ]
                        refine wpAnyL_take (i := 9) (oi := _) (v := ?v367) rfl (by kernel_rfl) (fun _ _ _ h => h) (by assumption) (Or.inl ⟨by kernel_rfl, ?y367⟩) ?r367
                        case y367 => (intro w hSw; (try dsimp only at hSw); go_simp; all_goals with_reducible rfl)
                        try simp only [Act.put, List.setIfInBounds_toArray, List.set_cons_zero, List.set_cons_succ]
                        refine wpAnyL_take (i := 10) (oi := _) (v := ?v368) rfl (by kernel_rfl) (fun _ _ _ h => h) (by assumption) (Or.inl ⟨by kernel_rfl, ?y368⟩) ?r368
                        case y368 => (intro w hSw; (try dsimp only at hSw); go_simp; all_goals with_reducible rfl)
                        try simp only [Act.put, List.setIfInBounds_toArray, List.set_cons_zero, List.set_cons_succ]
                        refine wpAnyL_take (i := 11) (oi := _) (v := ?v369) rfl (by kernel_rfl) (fun _ _ _ h => h) (by assumption) (Or.inl ⟨by kernel_rfl, ?y369⟩) ?r369
                        case y369 => (intro w hSw; (try dsimp only at hSw); go_simp; all_goals with_reducible rfl)
                        try simp only [Act.put, List.setIfInBounds_toArray, List.set_cons_zero, List.set_cons_succ]
                        refine wpAnyL_take (i := 12) (oi := _) (v := ?v370) rfl (by kernel_rfl) (fun _ _ _ h => h) (by assumption) (Or.inl ⟨by kernel_rfl, ?y370⟩) ?r370
                        case y370 => (intro w hSw; (try dsimp only at hSw); go_simp; all_goals with_reducible rfl)
                        try simp only [Act.put, List.setIfInBounds_toArray, List.set_cons_zero, List.set_cons_succ]
                        refine wpAnyL_take (i := 13) (oi := _) (v := ?v371) rfl (by kernel_rfl) (fun _ _ _ h => h) (by assumption) (Or.inl ⟨by kernel_rfl, ?y371⟩) ?r371
                        case y371 => (intro w hSw; (try dsimp only at hSw); go_simp; all_goals with_reducible rfl)
                        try simp only [Act.put, List.setIfInBounds_toArray, List.set_cons_zero, List.set_cons_succ]
                        refine wpAnyL_take (i := 14) (oi := _) (v := ?v372) rfl (by kernel_rfl) (fun _ _ _ h => h) (by assumption) (Or.inl ⟨by kernel_rfl, ?y372⟩) ?r372
                        case y372 => (intro w hSw; (try dsimp only at hSw); go_simp; all_goals with_reducible rfl)
                        try simp only [Act.put, List.setIfInBounds_toArray, List.set_cons_zero, List.set_cons_succ]
                        refine wpAnyL_take (i := 15) (oi := _) (v := ?v373) rfl (by kernel_rfl) (fun _ _ _ h => h) (by assumption) (Or.inl ⟨by kernel_rfl, ?y373⟩) ?r373
                        case y373 => (intro w hSw; (try dsimp only at hSw); go_simp; all_goals with_reducible rfl)
                        try simp only [Act.put, List.setIfInBounds_toArray, List.set_cons_zero, List.set_cons_succ]
                        refine wpAnyL_take (i := 16) (oi := _) (v := ?v374) rfl (by kernel_rfl) (fun _ _ _ h => h) (by assumption) (Or.inl ⟨by kernel_rfl, ?y374⟩) ?r374
                        case y374 => (intro w hSw; (try dsimp only at hSw); go_simp; all_goals with_reducible rfl)
                        try simp only [Act.put, List.setIfInBounds_toArray, List.set_cons_zero, List.set_cons_succ]
                        refine wpAnyL_take (i := 17) (oi := _) (v := ?v375) rfl (by kernel_rfl) (fun _ _ _ h => h) (by assumption) (Or.inl ⟨by kernel_rfl, ?y375⟩) ?r375
                        case y375 => (intro w hSw; (try dsimp only at hSw); go_simp; all_goals with_reducible rfl)
                        try simp only [Act.put, List.setIfInBounds_toArray, List.set_cons_zero, List.set_cons_succ]
                        refine wpAnyL_take (i := 18) (oi := _) (v := ?v376) rfl (by kernel_rfl) (fun _ _ _ h => h) (by assumption) (Or.inl ⟨by kernel_rfl, ?y376⟩) ?r376
                        case y376 => (intro w hSw; (try dsimp only at hSw); go_simp; all_goals with_reducible rfl)
                        try simp only [Act.put, List.setIfInBounds_toArray, List.set_cons_zero, List.set_cons_succ]
                        refine wpAnyL_take (i := 19) (oi := _) (v := ?v377) rfl (by kernel_rfl) (fun _ _ _ h => h) (by assumption) (Or.inl ⟨by kernel_rfl, ?y377⟩) ?r377
                        case y377 => (intro w hSw; (try dsimp only at hSw); go_simp; all_goals with_reducible rfl)
                        try simp only [Act.put, List.setIfInBounds_toArray, List.set_cons_zero, List.set_cons_succ]
                        refine wpAnyL_take (i := 20) (oi := _) (v := ?v378) rfl (by kernel_rfl) (fun _ _ _ h => h) (by assumption) (Or.inl ⟨by kernel_rfl, ?y378⟩) ?r378
                        case y378 => (intro w hSw; (try dsimp only at hSw); go_simp; all_goals with_reducible rfl)
                        try simp only [Act.put, List.setIfInBounds_toArray, List.set_cons_zero, List.set_cons_succ]
                        refine wpAnyL_take (i := 21) (oi := _) (v := ?v379) rfl (by kernel_rfl) (fun _ _ _ h => h) (by assumption) (Or.inl ⟨by kernel_rfl, ?y379⟩) ?r379
                        case y379 => (intro w hSw; (try dsimp only at hSw); go_simp; all_goals with_reducible rfl)
                        try simp only [Act.put, List.setIfInBounds_toArray, List.set_cons_zero, List.set_cons_succ]
                        refine wpAnyL_take (i := 22) (oi := _) (v := ?v380) rfl (by kernel_rfl) (fun _ _ _ h => h) (by assumption) (Or.inl ⟨by kernel_rfl, ?y380⟩) ?r380
                        case y380 => (intro w hSw; (try dsimp only at hSw); go_simp; all_goals with_reducible rfl)
                        try simp only [Act.put, List.setIfInBounds_toArray, List.set_cons_zero, List.set_cons_succ]
                        refine wpAnyL_take (i := 23) (oi := _) (v := ?v381) rfl (by kernel_rfl) (fun _ _ _ h => h) (by assumption) (Or.inl ⟨by kernel_rfl, ?y381⟩) ?r381
                        case y381 => (intro w hSw; (try dsimp only at hSw); go_simp; all_goals with_reducible rfl)
                        try simp only [Act.put, List.setIfInBounds_toArray, List.set_cons_zero, List.set_cons_succ]
                        refine wpAnyL_take (i := 24) (oi := _) (v := ?v382) rfl (by kernel_rfl) (fun _ _ _ h => h) (by assumption) (Or.inl ⟨by kernel_rfl, ?y382⟩) ?r382
                        case y382 => (intro w hSw; (try dsimp only at hSw); go_simp; all_goals with_reducible rfl)
                        try simp only [Act.put, List.setIfInBounds_toArray, List.set_cons_zero, List.set_cons_succ]
                        refine wpAnyL_take (i := 25) (oi := _) (v := ?v383) rfl (by kernel_rfl) (fun _ _ _ h => h) (by assumption) (Or.inl ⟨by kernel_rfl, ?y383⟩) ?r383
                        case y383 => (intro w hSw; (try dsimp only at hSw); go_simp; all_goals with_reducible rfl)
                        try simp only [Act.put, List.setIfInBounds_toArray, List.set_cons_zero, List.set_cons_succ]
                        refine wpAnyL_take (i := 26) (oi := _) (v := ?v384) rfl (by kernel_rfl) (fun _ _ _ h => h) (by assumption) (Or.inl ⟨by kernel_rfl, ?y384⟩) ?r384
                        case y384 => (intro w hSw; (try dsimp only at hSw); go_simp; all_goals with_reducible rfl)
                        try simp only [Act.put, List.setIfInBounds_toArray, List.set_cons_zero, List.set_cons_succ]
                        refine wpAnyL_take (i := 27) (oi := _) (v := ?v385) rfl (by kernel_rfl) (fun _ _ _ h => h) (by assumption) (Or.inl ⟨by kernel_rfl, ?y385⟩) ?r385
                        case y385 => (intro w hSw; (try dsimp only at hSw); go_simp; all_goals with_reducible rfl)
                        try simp only [Act.put, List.setIfInBounds_toArray, List.set_cons_zero, List.set_cons_succ]
                        refine wpAnyL_take (i := 28) (oi := _) (v := ?v386) rfl (by kernel_rfl) (fun _ _ _ h => h) (by assumption) (Or.inl ⟨by kernel_rfl, ?y386⟩) ?r386
                        case y386 => (intro w hSw; (try dsimp only at hSw); go_simp; all_goals with_reducible rfl)
                        try simp only [Act.put, List.setIfInBounds_toArray, List.set_cons_zero, List.set_cons_succ]
                        refine wpAnyL_take (i := 29) (oi := _) (v := ?v387) rfl (by kernel_rfl) (fun _ _ _ h => h) (by assumption) (Or.inl ⟨by kernel_rfl, ?y387⟩) ?r387
                        case y387 => (intro w hSw; (try dsimp only at hSw); go_simp; all_goals with_reducible rfl)
                        try simp only [Act.put, List.setIfInBounds_toArray, List.set_cons_zero, List.set_cons_succ]
                        refine wpAnyL_take (i := 30) (oi := _) (v := ?v388) rfl (by kernel_rfl) (fun _ _ _ h => h) (by assumption) (Or.inl ⟨by kernel_rfl, ?y388⟩) ?r388
                        case y388 => (intro w hSw; (try dsimp only at hSw); go_simp; all_goals with_reducible rfl)
                        try simp only [Act.put, List.setIfInBounds_toArray, List.set_cons_zero, List.set_cons_succ]
                        refine wpAnyL_take (i := 31) (oi := _) (v := ?v389) rfl (by kernel_rfl) (fun _ _ _ h => h) (by assumption) (Or.inl ⟨by kernel_rfl, ?y389⟩) ?r389
                        case y389 => (intro w hSw; (try dsimp only at hSw); go_simp; all_goals with_reducible rfl)
                        try simp only [Act.put, List.setIfInBounds_toArray, List.set_cons_zero, List.set_cons_succ]
                        refine wpAnyL_take (i := 32) (oi := _) (v := ?v390) rfl (by kernel_rfl) (fun _ _ _ h => h) (by assumption) (Or.inl ⟨by kernel_rfl, ?y390⟩) ?r390
                        case y390 => (intro w hSw; (try dsimp only at hSw); go_simp; all_goals with_reducible rfl)
                        try simp only [Act.put, List.setIfInBounds_toArray, List.set_cons_zero, List.set_cons_succ]
                        refine wpAnyL_take (i := 33) (oi := _) (v := ?v391) rfl (by kernel_rfl) (fun _ _ _ h => h) (by assumption) (Or.inl ⟨by kernel_rfl, ?y391⟩) ?r391
                        case y391 => (intro w hSw; (try dsimp only at hSw); go_simp; all_goals with_reducible rfl)
                        try simp only [Act.put, List.setIfInBounds_toArray, List.set_cons_zero, List.set_cons_succ]
                        refine wpAnyL_take (i := 34) (oi := _) (v := ?v392) rfl (by kernel_rfl) (fun _ _ _ h => h) (by assumption) (Or.inl ⟨by kernel_rfl, ?y392⟩) ?r392
                        case y392 => (intro w hSw; (try dsimp only at hSw); go_simp; all_goals with_reducible rfl)
                        try simp only [Act.put, List.setIfInBounds_toArray, List.set_cons_zero, List.set_cons_succ]
                        refine wpAnyL_step (j := 35) (o := _) (by kernel_rfl) rfl (fun K hK => ?_)
                        (go_simp; go_at_call 31; refine (do_any M (65 * evSum l (o.take k)) w.heap.size dc (heapAll l (o.take k)) dA evs th hxl hsl.out hel.out _ (hH0.out.drewN _).drew (hev.out _ (HB0.out _ (hF0.out.drewN _).drew)) HMB.out.1).mono ?_; rintro e w4 ⟨rfl, hH4, hM4⟩; rw [HOKV.out])
                        refine hK _ _ ?_ (fun hHeld => ?_)
                        · ((try dsimp only); (exact HS.out _ ((((MapF.refl M w0).drewN _).drew).trans hM4)))
                        clear hK K
                        try simp only [Act.put, List.setIfInBounds_toArray, List.set_cons_zero, List.set_cons_succ]
                        refine wpAnyL_take (i := 36) (oi := _) (v := ?v394) rfl (by kernel_rfl) (fun _ _ _ h => h) (by assumption) (Or.inl ⟨by kernel_rfl, ?y394⟩) ?r394
                        case y394 => (intro w hSw; (try dsimp only at hSw); go_simp; all_goals with_reducible rfl)
                        try simp only [Act.put, List.setIfInBounds_toArray, List.set_cons_zero, List.set_cons_succ]
                        refine wpAnyL_last (j := 37) (o := _) (by kernel_rfl) rfl (by rfl) (by kernel_rfl) (fun K hK => ?_)
                        go_simp
                        (refine hK _ _ ?_; clear hK K)
                        try simp only [Act.put, List.setIfInBounds_toArray, List.set_cons_zero, List.set_cons_succ]
                        unfold onlyN
                        have hFE := Lib.hid ((hF0.out.drewN _).drew.trans hM4)
                        clear hH4 hM4 hHeld
                        go_wp2_with fail
                        refine ⟨by simp, .inl ⟨_, _, rfl, run_takeDeferred (HD.out _ hFE.out), ?_⟩⟩
                        exact ⟨.tuple #[.int .i64 (i : Int), .int .i64 16], by simp [results, Tryz.results8, go_sem], congrArg _ F.out, below_put (HB0.out _ hFE.out) HMB.out.2 _⟩
                      · have HOKV := Lib.hid hok
                        have F : Hid (res = failV 16 (scheckGo l (pvO o (k + 1)) (o.drop (k + 1)) (heapAll l (o.take (k + 1))))) := Lib.hid (by rw [hst.out, hto.out, hok, hpv.out, hha.out]; rfl)
                        clear hok hto
                        go_wp2_with fail
                        go_quiet (fail)
                        go_wp2_with fail
                        refine wp_region_Ln (l := 37) (S := (fun W1 => (W1.cell? ⟨X, 5, none⟩ = some (.int .i64 pl) ∧ W1.cell? ⟨X, 6, none⟩ = some (.bool true) ∧ W1.cell? ⟨X, 7, none⟩ = some (.slice dA evs.length dc)) ∧ W1.cell? ⟨w.heap.size, 0, none⟩ = some (.slice (some ⟨b, off, none⟩) l.length c) ∧ W1.cell? ⟨gb, goff + k', none⟩ = some (.int .i64 (i' : Int)) ∧ W1.cell? ⟨b, off + i' * 8 + 6, none⟩ = some (.bool true) ∧ W1.cell? ⟨b, off + i' * 8 + 5, none⟩ = some (.int .i64 ypl))) (by kernel_rfl) ?_ (fun hHeld => ?_)
                        · ((try dsimp only); (exact HS.out _ (((MapF.refl M w0).drewN _).drew)))
                        refine wpAnyL_take (i := 0) (oi := _) (v := ?v396) rfl (by kernel_rfl) (fun _ _ _ h => h) (by assumption) (Or.inl ⟨by kernel_rfl, ?y396⟩) ?r396
                        case y396 => (intro w hSw; (try dsimp only at hSw); go_simp; all_goals with_reducible rfl)
                        try simp only [Act.put, List.setIfInBounds_toArray, List.set_cons_zero, List.set_cons_succ]
                        refine wpAnyL_take (i := 1) (oi := _) (v := ?v397) rfl (by kernel_rfl) (fun _ _ _ h => h) (by assumption) (Or.inl ⟨by kernel_rfl, ?y397⟩) ?r397
                        case y397 => (intro w hSw; (try dsimp only at hSw); go_simp; all_goals with_reducible rfl)
                        try simp only [Act.put, List.setIfInBounds_toArray, List.set_cons_zero, List.set_cons_succ]
                        refine wpAnyL_take (i := 2) (oi := _) (v := ?v398) rfl (by kernel_rfl) (fun _ _ _ h => h) (by assumption) (Or.inl ⟨by kernel_rfl, ?y398⟩) ?r398
                        case y398 => (intro w hSw; (try dsimp only at hSw); go_simp; all_goals with_reducible rfl)
                        try simp only [Act.put, List.setIfInBounds_toArray, List.set_cons_zero, List.set_cons_succ]
                        refine wpAnyL_take (i := 3) (oi := _) (v := ?v399) rfl (by kernel_rfl) (fun _ _ _ h => h) (by assumption) (Or.inl ⟨by kernel_rfl, ?y399⟩) ?r399
                        case y399 => (intro w hSw; (try dsimp only at hSw); go_simp; all_goals with_reducible rfl)
                        try simp only [Act.put, List.setIfInBounds_toArray, List.set_cons_zero, List.set_cons_succ]
                        refine wpAnyL_take (i := 4) (oi := _) (v := ?v400) rfl (by kernel_rfl) (fun _ _ _ h => h) (by assumption) (Or.inl ⟨by kernel_rfl, ?y400⟩) ?r400
                        case y400 => (intro w hSw; (try dsimp only at hSw); go_simp; all_goals with_reducible rfl)
                        try simp only [Act.put, List.setIfInBounds_toArray, List.set_cons_zero, List.set_cons_succ]
                        refine wpAnyL_take (i := 5) (oi := _) (v := ?v401) rfl (by kernel_rfl) (fun _ _ _ h => h) (by assumption) (Or.inl ⟨by kernel_rfl, ?y401⟩) ?r401
                        case y401 => (intro w hSw; (try dsimp only at hSw); go_simp; all_goals with_reducible rfl)
                        try simp only [Act.put, List.setIfInBounds_toArray, List.set_cons_zero, List.set_cons_succ]
                        refine wpAnyL_take (i := 6) (oi := _) (v := ?v402) rfl (by kernel_rfl) (fun _ _ _ h => h) (by assumption) (Or.inl ⟨by kernel_rfl, ?y402⟩) ?r402
                        case y402 => (intro w hSw; (try dsimp only at hSw); go_simp; all_goals with_reducible rfl)
                        try simp only [Act.put, List.setIfInBounds_toArray, List.set_cons_zero, List.set_cons_succ]
                        refine wpAnyL_take (i := 7) (oi := _) (v := ?v403) rfl (by kernel_rfl) (fun _ _ _ h => h) (by assumption) (Or.inl ⟨by kernel_rfl, ?y403⟩) ?r403
                        case y403 => (intro w hSw; (try dsimp only at hSw); go_simp; all_goals with_reducible rfl)
                        try simp only [Act.put, List.setIfInBounds_toArray, List.set_cons_zero, List.set_cons_succ]
                        refine wpAnyL_take (i := 8) (oi := _) (v := ?v404) rfl (by kernel_rfl) (fun _ _ _ h => h) (by assumption) (Or.inl ⟨by kernel_rfl, ?y404⟩) ?r404
                        case y404 => (intro w hSw; (try dsimp only at hSw); go_simp; all_goals with_reducible rfl)
                        try simp only [Act.put, List.setIfInBounds_toArray, List.set_cons_zero, List.set_cons_succ]
                        refine wpAnyL_take (i := 9) (oi := _) (v := ?v405) rfl (by kernel_rfl) (fun _ _ _ h => h) (by assumption) (Or.inl ⟨by kernel_rfl, ?y405⟩) ?r405
                        case y405 => (intro w hSw; (try dsimp only at hSw); go_simp; all_goals with_reducible rfl)
                        try simp only [Act.put, List.setIfInBounds_toArray, List.set_cons_zero, List.set_cons_succ]
                        refine wpAnyL_take (i := 10) (oi := _) (v := ?v406) rfl (by kernel_rfl) (fun _ _ _ h => h) (by assumption) (Or.inl ⟨by kernel_rfl, ?y406⟩) ?r406
                        case y406 => (intro w hSw; (try dsimp only at hSw); go_simp; all_goals with_reducible rfl)
                        try simp only [Act.put, List.setIfInBounds_toArray, List.set_cons_zero, List.set_cons_succ]
                        refine wpAnyL_take (i := 11) (oi := _) (v := ?v407) rfl (by kernel_rfl) (fun _ _ _ h => h) (by assumption) (Or.inl ⟨by kernel_rfl, ?y407⟩) ?r407
                        case y407 => (intro w hSw; (try dsimp only at hSw); go_simp; all_goals with_reducible rfl)
                        try simp only [Act.put, List.setIfInBounds_toArray, List.set_cons_zero, List.set_cons_succ]
                        refine wpAnyL_take (i := 12) (oi := _) (v := ?v408) rfl (by kernel_rfl) (fun _ _ _ h => h) (by assumption) (Or.inl ⟨by kernel_rfl, ?y408⟩) ?r408
                        case y408 => (intro w hSw; (try dsimp only at hSw); go_simp; all_goals with_reducible rfl)
                        try simp only [Act.put, List.setIfInBounds_toArray, List.set_cons_zero, List.set_cons_succ]
                        refine wpAnyL_take (i := 13) (oi := _) (v := ?v409) rfl (by kernel_rfl) (fun _ _ _ h => h) (by assumption) (Or.inl ⟨by kernel_rfl, ?y409⟩) ?r409
                        case y409 => (intro w hSw; (try dsimp only at hSw); go_simp; all_goals with_reducible rfl)
                        try simp only [Act.put, List.setIfInBounds_toArray, List.set_cons_zero, List.set_cons_succ]
                        refine wpAnyL_take (i := 14) (oi := _) (v := ?v410) rfl (by kernel_rfl) (fun _ _ _ h => h) (by assumption) (Or.inl ⟨by kernel_rfl, ?y410⟩) ?r410
                        case y410 => (intro w hSw; (try dsimp only at hSw); go_simp; all_goals with_reducible rfl)
                        try simp only [Act.put, List.setIfInBounds_toArray, List.set_cons_zero, List.set_cons_succ]
                        refine wpAnyL_take (i := 15) (oi := _) (v := ?v411) rfl (by kernel_rfl) (fun _ _ _ h => h) (by assumption) (Or.inl ⟨by kernel_rfl, ?y411⟩) ?r411
                        case y411 => (intro w hSw; (try dsimp only at hSw); go_simp; all_goals with_reducible rfl)
                        try simp only [Act.put, List.setIfInBounds_toArray, List.set_cons_zero, List.set_cons_succ]
                        refine wpAnyL_take (i := 16) (oi := _) (v := ?v412) rfl (by kernel_rfl) (fun _ _ _ h => h) (by assumption) (Or.inl ⟨by kernel_rfl, ?y412⟩) ?r412
                        case y412 => (intro w hSw; (try dsimp only at hSw); go_simp; all_goals with_reducible rfl)
                        try simp only [Act.put, List.setIfInBounds_toArray, List.set_cons_zero, List.set_cons_succ]
                        refine wpAnyL_take (i := 17) (oi := _) (v := ?v413) rfl (by kernel_rfl) (fun _ _ _ h => h) (by assumption) (Or.inl ⟨by kernel_rfl, ?y413⟩) ?r413
                        case y413 => (intro w hSw; (try dsimp only at hSw); go_simp; all_goals with_reducible rfl)
                        try simp only [Act.put, List.setIfInBounds_toArray, List.set_cons_zero, List.set_cons_succ]
                        refine wpAnyL_take (i := 18) (oi := _) (v := ?v414) rfl (by kernel_rfl) (fun _ _ _ h => h) (by assumption) (Or.inl ⟨by kernel_rfl, ?y414⟩) ?r414
                        case y414 => (intro w hSw; (try dsimp only at hSw); go_simp; all_goals with_reducible rfl)
                        try simp only [Act.put, List.setIfInBounds_toArray, List.set_cons_zero, List.set_cons_succ]
                        refine wpAnyL_take (i := 19) (oi := _) (v := ?v415) rfl (by kernel_rfl) (fun _ _ _ h => h) (by assumption) (Or.inl ⟨by kernel_rfl, ?y415⟩) ?r415
                        case y415 => (intro w hSw; (try dsimp only at hSw); go_simp; all_goals with_reducible rfl)
                        try simp only [Act.put, List.setIfInBounds_toArray, List.set_cons_zero, List.set_cons_succ]
                        refine wpAnyL_take (i := 20) (oi := _) (v := ?v416) rfl (by kernel_rfl) (fun _ _ _ h => h) (by assumption) (Or.inl ⟨by kernel_rfl, ?y416⟩) ?r416
                        case y416 => (intro w hSw; (try dsimp only at hSw); go_simp; all_goals with_reducible rfl)
                        try simp only [Act.put, List.setIfInBounds_toArray, List.set_cons_zero, List.set_cons_succ]
                        refine wpAnyL_take (i := 21) (oi := _) (v := ?v417) rfl (by kernel_rfl) (fun _ _ _ h => h) (by assumption) (Or.inl ⟨by kernel_rfl, ?y417⟩) ?r417
                        case y417 => (intro w hSw; (try dsimp only at hSw); go_simp; all_goals with_reducible rfl)
                        try simp only [Act.put, List.setIfInBounds_toArray, List.set_cons_zero, List.set_cons_succ]
                        refine wpAnyL_take (i := 22) (oi := _) (v := ?v418) rfl (by kernel_rfl) (fun _ _ _ h => h) (by assumption) (Or.inl ⟨by kernel_rfl, ?y418⟩) ?r418
                        case y418 => (intro w hSw; (try dsimp only at hSw); go_simp; all_goals with_reducible rfl)
                        try simp only [Act.put, List.setIfInBounds_toArray, List.set_cons_zero, List.set_cons_succ]
                        refine wpAnyL_take (i := 23) (oi := _) (v := ?v419) rfl (by kernel_rfl) (fun _ _ _ h => h) (by assumption) (Or.inl ⟨by kernel_rfl, ?y419⟩) ?r419
                        case y419 => (intro w hSw; (try dsimp only at hSw); go_simp; all_goals with_reducible rfl)
                        try simp only [Act.put, List.setIfInBounds_toArray, List.set_cons_zero, List.set_cons_succ]
                        refine wpAnyL_take (i := 24) (oi := _) (v := ?v420) rfl (by kernel_rfl) (fun _ _ _ h => h) (by assumption) (Or.inl ⟨by kernel_rfl, ?y420⟩) ?r420
                        case y420 => (intro w hSw; (try dsimp only at hSw); go_simp; all_goals with_reducible rfl)
                        try simp only [Act.put, List.setIfInBounds_toArray, List.set_cons_zero, List.set_cons_succ]
                        refine wpAnyL_take (i := 25) (oi := _) (v := ?v421) rfl (by kernel_rfl) (fun _ _ _ h => h) (by assumption) (Or.inl ⟨by kernel_rfl, ?y421⟩) ?r421
                        case y421 => (intro w hSw; (try dsimp only at hSw); go_simp; all_goals with_reducible rfl)
                        try simp only [Act.put, List.setIfInBounds_toArray, List.set_cons_zero, List.set_cons_succ]
                        refine wpAnyL_take (i := 26) (oi := _) (v := ?v422) rfl (by kernel_rfl) (fun _ _ _ h => h) (by assumption) (Or.inl ⟨by kernel_rfl, ?y422⟩) ?r422
                        case y422 => (intro w hSw; (try dsimp only at hSw); go_simp; all_goals with_reducible rfl)
                        try simp only [Act.put, List.setIfInBounds_toArray, List.set_cons_zero, List.set_cons_succ]
                        refine wpAnyL_take (i := 27) (oi := _) (v := ?v423) rfl (by kernel_rfl) (fun _ _ _ h => h) (by assumption) (Or.inl ⟨by kernel_rfl, ?y423⟩) ?r423
                        case y423 => (intro w hSw; (try dsimp only at hSw); go_simp; all_goals with_reducible rfl)
                        try simp only [Act.put, List.setIfInBounds_toArray, List.set_cons_zero, List.set_cons_succ]
                        refine wpAnyL_take (i := 28) (oi := _) (v := ?v424) rfl (by kernel_rfl) (fun _ _ _ h => h) (by assumption) (Or.inl ⟨by kernel_rfl, ?y424⟩) ?r424
                        case y424 => (intro w hSw; (try dsimp only at hSw); go_simp; all_goals with_reducible rfl)
                        try simp only [Act.put, List.setIfInBounds_toArray, List.set_cons_zero, List.set_cons_succ]
                        refine wpAnyL_take (i := 29) (oi := _) (v := ?v425) rfl (by kernel_rfl) (fun _ _ _ h => h) (by assumption) (Or.inl ⟨by kernel_rfl, ?y425⟩) ?r425
                        case y425 => (intro w hSw; (try dsimp only at hSw); go_simp; all_goals with_reducible rfl)
                        try simp only [Act.put, List.setIfInBounds_toArray, List.set_cons_zero, List.set_cons_succ]
                        refine wpAnyL_take (i := 30) (oi := _) (v := ?v426) rfl (by kernel_rfl) (fun _ _ _ h => h) (by assumption) (Or.inl ⟨by kernel_rfl, ?y426⟩) ?r426
                        case y426 => (intro w hSw; (try dsimp only at hSw); go_simp; all_goals with_reducible rfl)
                        try simp only [Act.put, List.setIfInBounds_toArray, List.set_cons_zero, List.set_cons_succ]
                        refine wpAnyL_take (i := 31) (oi := _) (v := ?v427) rfl (by kernel_rfl) (fun _ _ _ h => h) (by assumption) (Or.inl ⟨by kernel_rfl, ?y427⟩) ?r427
                        case y427 => (intro w hSw; (try dsimp only at hSw); go_simp; all_goals with_reducible rfl)
                        try simp only [Act.put, List.setIfInBounds_toArray, List.set_cons_zero, List.set_cons_succ]
                        refine wpAnyL_take (i := 32) (oi := _) (v := ?v428) rfl (by kernel_rfl) (fun _ _ _ h => h) (by assumption) (Or.inl ⟨by kernel_rfl, ?y428⟩) ?r428
                        case y428 => (intro w hSw; (try dsimp only at hSw); go_simp; all_goals with_reducible rfl)
                        try simp only [Act.put, List.setIfInBounds_toArray, List.set_cons_zero, List.set_cons_succ]
                        refine wpAnyL_take (i := 33) (oi := _) (v := ?v429) rfl (by kernel_rfl) (fun _ _ _ h => h) (by assumption) (Or.inl ⟨by kernel_rfl, ?y429⟩) ?r429
                        case y429 => (intro w hSw; (try dsimp only at hSw); go_simp; all_goals with_reducible rfl)
                        try simp only [Act.put, List.setIfInBounds_toArray, List.set_cons_zero, List.set_cons_succ]
                        refine wpAnyL_take (i := 34) (oi := _) (v := ?v430) rfl (by kernel_rfl) (fun _ _ _ h => h) (by assumption) (Or.inl ⟨by kernel_rfl, ?y430⟩) ?r430
                        case y430 => (intro w hSw; (try dsimp only at hSw); go_simp; all_goals with_reducible rfl)
                        try simp only [Act.put, List.setIfInBounds_toArray, List.set_cons_zero, List.set_cons_succ]
                        refine wpAnyL_step (j := 35) (o := _) (by kernel_rfl) rfl (fun K hK => ?_)
                        (go_simp; go_at_call 31; refine (do_any M (65 * evSum l (o.take k)) w.heap.size dc (heapAll l (o.take k)) dA evs th hxl hsl.out hel.out _ (hH0.out.drewN _).drew (hev.out _ (HB0.out _ (hF0.out.drewN _).drew)) HMB.out.1).mono ?_; rintro e w4 ⟨rfl, hH4, hM4⟩; rw [HOKV.out])
                        refine hK _ _ ?_ (fun hHeld => ?_)
                        · ((try dsimp only); (exact HS.out _ ((((MapF.refl M w0).drewN _).drew).trans hM4)))
                        clear hK K
                        try simp only [Act.put, List.setIfInBounds_toArray, List.set_cons_zero, List.set_cons_succ]
                        refine wpAnyL_take (i := 36) (oi := _) (v := ?v432) rfl (by kernel_rfl) (fun _ _ _ h => h) (by assumption) (Or.inl ⟨by kernel_rfl, ?y432⟩) ?r432
                        case y432 => (intro w hSw; (try dsimp only at hSw); go_simp; all_goals with_reducible rfl)
                        try simp only [Act.put, List.setIfInBounds_toArray, List.set_cons_zero, List.set_cons_succ]
                        refine wpAnyL_last (j := 37) (o := _) (by kernel_rfl) rfl (by rfl) (by kernel_rfl) (fun K hK => ?_)
                        go_simp
                        (refine hK _ _ ?_; clear hK K)
                        try simp only [Act.put, List.setIfInBounds_toArray, List.set_cons_zero, List.set_cons_succ]
                        unfold onlyN
                        have hFE := Lib.hid ((hF0.out.drewN _).drew.trans hM4)
                        have hHE : Hid (HeapAt Tryz.prog 2 w4 M (65 * evSum l (o.take (k + 1))) (heapAll l (o.take (k + 1)))) := Lib.hid (by rw [hha.out]; exact hH4.mono (by rw [hsu.out]; omega))
                        clear hH4 hM4 hHeld
                        go_wp2_with fail
                        go_roundw
                        case rel => exact ⟨k + 1, by go_num, by omega, F, hHE, hFE⟩
                        case measure => simp [intOf]; omega
            · have t1 : decide (pl ≤ ck) = true := by simpa using hp
              have F : Hid ((.tuple #[.int .i64 (i : Int), .int .i64 16] : Value) = .tuple #[.int .i64 res.1, .int .i64 res.2]) := Lib.hid (by
                rw [hst.out, show orderedB l (pvO o k) ⟨th, xkd, bg, en, ck, pl, true, dA, dc, evs⟩ (o.drop (k + 1)) (heapAll l (o.take k)) = false by rw [hle.out]; simp [placedB, hp]]; rfl)
              clear hst hpv hha hsu hH0
              go_wp2_with fail
              go_quiet (fail)
              go_wp2_with fail
              refine ⟨by simp, .inl ⟨_, _, rfl, run_takeDeferred (HD.out _ (hF0.out.drewN _)), ?_⟩⟩
              exact ⟨.tuple #[.int .i64 (i : Int), .int .i64 16], by simp [results, Tryz.results8, go_sem], congrArg _ F.out, below_put (HB0.out _ (hF0.out.drewN _)) HMB.out.2 _⟩
        · have F : Hid ((.tuple #[.int .i64 0, .int .i64 0] : Value) = .tuple #[.int .i64 res.1, .int .i64 res.2]) := Lib.hid (by
            rw [hV.out, List.drop_eq_nil_of_le (by omega)]; rfl)
          have hE := Lib.hid (below_put (HB0.out _ hF.out) HMB.out.2 (.deferred none))
          have hK := HD.out _ hF.out
          clear hV hH
          go_wp2_with fail
          refine ⟨by simp, .inl ⟨_, _, rfl, run_takeDeferred hK, ?_⟩⟩
          exact ⟨.tuple #[.int .i64 0, .int .i64 0], by simp [results, Tryz.results8, go_sem], congrArg _ F.out, hE.out⟩
  · have hcv := Lib.hid (checked_kinds l hck)
    have HV : Hid (scheckV l = (0, checkedV l)) := Lib.hid (by unfold scheckV; rw [if_neg hck])
    have HO : Hid (∀ w1 e w2, OrdOut l w1 e w2 → Below w1.heap.size w1 w2 ∧ e = .returned (.tuple #[.slice none 0 0, .int .i64 (checkedV l)])) := Lib.hid (fun w1 e w2 h => ⟨h.1, h.2.elim (·.2) (fun h => absurd h.1 hck)⟩)
    have t1 : (checkedV l == 0) = false := by simpa using hck
    have t2 : (checkedV l != 0) = true := by simpa using hck
    generalize checkedV l = cv at *
    generalize scheckV l = res at *
    refine (callsIn_wide (n := 9)).1 (callsIn_of_wp_marks Tryz.func8 rfl trivial (wpIn_wide.2 ?_) rfl)
    simp only [Tryz.ntmps8, List.size_toArray, List.length_cons, List.length_nil, Nat.reduceAdd, Nat.reduceSub, Array.replicate_succ, Array.replicate_zero, List.push_toArray, List.append_toArray, List.nil_append, List.cons_append]
    go_wp2_with fail
    refine (HC.out _ ((Below.refl _ _).alloc (Nat.le_refl _) _)).mono ?_
    intro e w1 hout
    obtain ⟨hb1, rfl⟩ := HO.out _ _ _ hout
    have HB1 : Hid (Below w.heap.size w w1) := Lib.hid (((Below.refl _ _).alloc (Nat.le_refl _) _).trans (hb1.mono (by simp)))
    clear hb1 hout
    go_wp2_with fail
    exact ⟨.tuple #[.int .i64 0, .int .i64 cv], by simp [results, Tryz.results8, go_sem], by rw [HV.out], HB1.out⟩
end Go.Proofs.YtjaegddnikkibaaGreatDoor
