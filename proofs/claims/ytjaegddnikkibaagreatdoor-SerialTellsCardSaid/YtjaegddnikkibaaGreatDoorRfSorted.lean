/-
  The reference's Sorted, walked.
-/
import Derived.Test.YtjaegddnikkibaaGreatDoorRfAhead
import Derived.Test.YtjaegddnikkibaaGreatDoorOwnKit
import Derived.Deep.AppendLies
import Derived.Test.YtjaegddnikkibaaGreatDoorOrder
set_option linter.unusedVariables false
set_option linter.unusedSimpArgs false
namespace Go.Proofs.YtjaegddnikkibaaGreatDoor
open Go.RowKit Go.Sort Go.Maps

abbrev SrS (w0 : World) (b o : Nat) (x : Att) (g i : Nat) (pv : Int) (o2 : Nat) (y : Att) (W : World) : Prop :=
  Below w0.heap.size w0 W ∧ W.cell? ⟨b, o, none⟩ = some (.int .i64 x.th) ∧ W.cell? ⟨b, o + 1, none⟩ = some (.int .u8 x.kd) ∧ W.cell? ⟨b, o + 2, none⟩ = some (.int .i64 x.bg) ∧ W.cell? ⟨b, o + 3, none⟩ = some (.int .i64 x.en) ∧ W.cell? ⟨b, o + 4, none⟩ = some (.int .i64 x.ck) ∧
    W.cell? ⟨b, o + 5, none⟩ = some (.int .i64 x.pl) ∧ W.cell? ⟨b, o + 6, none⟩ = some (.bool x.wr) ∧ W.cell? ⟨b, o + 7, none⟩ = some (.slice x.dA x.evs.length x.dc) ∧ W.cell? ⟨g, i, none⟩ = some (.int .i64 pv) ∧
    W.cell? ⟨b, o2, none⟩ = some (.int .i64 y.th) ∧ W.cell? ⟨b, o2 + 1, none⟩ = some (.int .u8 y.kd) ∧ W.cell? ⟨b, o2 + 2, none⟩ = some (.int .i64 y.bg) ∧ W.cell? ⟨b, o2 + 3, none⟩ = some (.int .i64 y.en) ∧ W.cell? ⟨b, o2 + 4, none⟩ = some (.int .i64 y.ck) ∧
    W.cell? ⟨b, o2 + 5, none⟩ = some (.int .i64 y.pl) ∧ W.cell? ⟨b, o2 + 6, none⟩ = some (.bool y.wr) ∧ W.cell? ⟨b, o2 + 7, none⟩ = some (.slice y.dA y.evs.length y.dc)
theorem srS_of {w0 : World} {b o g i o2 : Nat} {x y : Att} {pv : Int} (hx : AttAt w0 b o x) (hy : AttAt w0 b o2 y) (hp : w0.cell? ⟨g, i, none⟩ = some (.int .i64 pv)) (W : World) (hW : Below w0.heap.size w0 W) : SrS w0 b o x g i pv o2 y W := by
  have hb := World.block_lt_of_cell? _ _ hx.c0
  have hg := World.block_lt_of_cell? _ _ hp
  obtain ⟨a0, a1, a2, a3, a4, a5, a6, a7⟩ := hx.keep fun o' => hW.cell (p := ⟨b, o', none⟩) hb
  obtain ⟨b0, b1, b2, b3, b4, b5, b6, b7⟩ := hy.keep fun o' => hW.cell (p := ⟨b, o', none⟩) hb
  exact ⟨hW, a0, a1, a2, a3, a4, a5, a6, a7, (hW.cell (p := ⟨g, i, none⟩) hg).trans hp, b0, b1, b2, b3, b4, b5, b6, b7⟩

set_option maxHeartbeats 4000000 in
set_option maxRecDepth 100000 in
theorem rfSorted_any (A : Option Addr) (c : Nat) (l : List Att) (hn : l.length ≤ 1048576) (w : World) (ha : AttsAt w w.heap.size A l) :
    Calls Tryz.prog 35 #[.slice A l.length c] w fun e w' => (∃ B cap, e = .returned (.slice B (orderV l).length cap) ∧ IntsAt w' B (orderV l)) ∧ Below w.heap.size w w' := by
  have HA := Lib.hid (fun W (h : Below w.heap.size w W) => ha.keep h (Nat.le_refl _))
  obtain ⟨i1, hj0, hy0, hy1, hy2⟩ := info_parts info_int
  have HDONE := Lib.hid (fun s (h : InS l l.length s) => h.done)
  have HI0 := Lib.hid (InS.start l)
  clear ha
  generalize orderV l = ord at *
  go_enter Tryz.func35, Tryz.ntmps35
  go_wp2_with fail
  go_loopw [3, 4] (fun v i wr => ∃ (k : Nat) (s : List Int), i = .int .i64 k ∧ k ≤ l.length ∧ Hid (wr.ownsRow w.heap.size 3 1 v s.length (s.map (Value.int .i64))) ∧ Hid (InS l k s) ∧ Hid (Below w.heap.size w wr)) (fun _ i _ => l.length - (intOf i).toNat)
  case atStart => exact ⟨0, [], rfl, Nat.zero_le _, Lib.hid (World.ownsRow_nil _ _ _ _), HI0, Lib.hid (Below.refl _ _)⟩
  case round =>
    clear HI0
    obtain ⟨k, s, rfl, hk, hown, hI, hW⟩ := hrel
    by_cases hlt : k < l.length
    · obtain ⟨b, off, rfl, hbl, -⟩ := (HA.out _ hW.out).row (by rintro rfl; simp at hlt)
      have HC := Lib.hid (fun W (h : Below w.heap.size w W) m x (hx : l[m]? = some x) => (HA.out W h).at hx)
      have hge := List.getElem?_eq_getElem hlt
      obtain ⟨c0, c1, c2, c3, c4, c5, c6, c7⟩ := HC.out _ hW.out k _ hge
      have q1 : (k : Int) < (l.length : Int) := by omega
      have q2 : (0 : Int) ≤ (k : Int) := Int.natCast_nonneg _
      have hsl := Nat.le_trans hI.out.len hn
      by_cases hkd : l[k].kd = 1
      · have HINS := Lib.hid (fun a h1 h2 h3 => hI.out.ins hlt hkd (a := a) h1 h2 h3)
        have HAT : Hid (attN l (k : Int) = l[k]) := Lib.hid (attN_get hlt)
        have HIDX := Lib.hid (fun i (h : i ∈ s) => hI.out.idx h)
        have HCX := Lib.hid (fun W (h : Below w.heap.size w W) => HC.out W h k _ hge)
        have HSUB := Lib.hid (fun W (h : Below wr.heap.size wr W) => hW.out.trans (h.mono hW.out.size))
        have HOWN := Lib.hid (fun W (h : Below wr.heap.size wr W) => own_belowI hown.out h)
        rw [hkd] at c1
        have HLT : Hid (∀ j (hj : j < s.length), ∃ q : Nat, ∃ hq : q < l.length, s[j] = (q : Int) ∧ ltN l (k : Int) s[j] = aheadB l[k] l[q]) := Lib.hid (fun j hj => by
          obtain ⟨q, hq, -, hql⟩ := HIDX.out _ (List.getElem_mem hj)
          refine ⟨q, hql, hq, ?_⟩
          unfold ltN
          rw [HAT.out, hq, attN_get hql])
        obtain ⟨OA, oc, rfl, hIA⟩ := intsAt_own hown.out
        have HIA := Lib.hid (fun W (h : Below wr.heap.size wr W) => hIA.keep h)
        clear hge hkd hI HAT HIDX hown hIA
        generalize l[k] = x at *
        go_wp2_with fail
        obtain ⟨wo, rfl⟩ : ∃ wo : World, wo = wr := ⟨_, rfl⟩
        clear c0 c1 c2 c3 c4 c5 c6 c7
        go_loopw [5] (fun i wr => ∃ a : Nat, i = .int .i64 a ∧ a ≤ s.length ∧ Hid (∀ j (hj : j < s.length), a ≤ j → ltN l (k : Int) s[j] = true) ∧ Hid (Below wo.heap.size wo wr)) (fun i _ => (intOf i).toNat)
        case atStart => exact ⟨s.length, rfl, Nat.le_refl _, Lib.hid (fun j hj h => by omega), Lib.hid (Below.refl _ _)⟩
        case round =>
          obtain ⟨a, rfl, ha, hhi, hWa⟩ := hrel
          have HWW := Lib.hid (fun W (h : Below wr.heap.size wr W) => hWa.out.trans (h.mono hWa.out.size))
          by_cases ha0 : a = 0
          · have t1 : decide (0 < (a : Int)) = false := by simp; omega
            have t1n : decide (0 < a) = false := by simp; omega
            have hlo : Hid (∀ j (hj : j < s.length), j + 1 = a → ltN l (k : Int) s[j] = false) := Lib.hid (fun j hj h => by omega)
            have HS := Lib.hid (fun W (h : Below wr.heap.size wr W) => h)
            clear ha0
            go_wp2_with fail
            refine wp_region_L (l := 16) (S := (fun W => Below wr.heap.size wr W)) (by kernel_rfl) ?_ (fun hHeld => ?_)
            · ((try dsimp only); (exact HS.out _ (Below.refl _ _).drew))
            refine wpAnyL_take (i := 0) (oi := _) (v := ?v1) rfl (by kernel_rfl) (fun _ _ _ h => h) (by assumption) (Or.inl ⟨by kernel_rfl, ?y1⟩) ?r1
            case y1 => (intro w hSw; (try dsimp only at hSw); go_simp; all_goals with_reducible rfl)
            try simp only [Act.put, List.setIfInBounds_toArray, List.set_cons_zero, List.set_cons_succ]
            refine wpAnyL_take (i := 1) (oi := _) (v := ?v2) rfl (by kernel_rfl) (fun _ _ _ h => h) (by assumption) (Or.inl ⟨by kernel_rfl, ?y2⟩) ?r2
            case y2 => (intro w hSw; (try dsimp only at hSw); go_simp; all_goals with_reducible rfl)
            try simp only [Act.put, List.setIfInBounds_toArray, List.set_cons_zero, List.set_cons_succ]
            refine wpAnyL_take (i := 2) (oi := _) (v := ?v3) rfl (by kernel_rfl) (fun _ _ _ h => h) (by assumption) (Or.inl ⟨by kernel_rfl, ?y3⟩) ?r3
            case y3 => (intro w hSw; (try dsimp only at hSw); go_simp; all_goals with_reducible rfl)
            try simp only [Act.put, List.setIfInBounds_toArray, List.set_cons_zero, List.set_cons_succ]
            refine wpAnyL_take (i := 3) (oi := _) (v := undef) rfl (by kernel_rfl) (fun _ _ _ h => h) (by assumption) (Or.inr ⟨by kernel_rfl, rfl⟩) ?_
            try simp only [Act.put, List.setIfInBounds_toArray, List.set_cons_zero, List.set_cons_succ]
            refine wpAnyL_take (i := 4) (oi := _) (v := undef) rfl (by kernel_rfl) (fun _ _ _ h => h) (by assumption) (Or.inr ⟨by kernel_rfl, rfl⟩) ?_
            try simp only [Act.put, List.setIfInBounds_toArray, List.set_cons_zero, List.set_cons_succ]
            refine wpAnyL_take (i := 5) (oi := _) (v := undef) rfl (by kernel_rfl) (fun _ _ _ h => h) (by assumption) (Or.inr ⟨by kernel_rfl, rfl⟩) ?_
            try simp only [Act.put, List.setIfInBounds_toArray, List.set_cons_zero, List.set_cons_succ]
            refine wpAnyL_take (i := 6) (oi := _) (v := undef) rfl (by kernel_rfl) (fun _ _ _ h => h) (by assumption) (Or.inr ⟨by kernel_rfl, rfl⟩) ?_
            try simp only [Act.put, List.setIfInBounds_toArray, List.set_cons_zero, List.set_cons_succ]
            refine wpAnyL_take (i := 7) (oi := _) (v := undef) rfl (by kernel_rfl) (fun _ _ _ h => h) (by assumption) (Or.inr ⟨by kernel_rfl, rfl⟩) ?_
            try simp only [Act.put, List.setIfInBounds_toArray, List.set_cons_zero, List.set_cons_succ]
            refine wpAnyL_take (i := 8) (oi := _) (v := undef) rfl (by kernel_rfl) (fun _ _ _ h => h) (by assumption) (Or.inr ⟨by kernel_rfl, rfl⟩) ?_
            try simp only [Act.put, List.setIfInBounds_toArray, List.set_cons_zero, List.set_cons_succ]
            refine wpAnyL_take (i := 9) (oi := _) (v := undef) rfl (by kernel_rfl) (fun _ _ _ h => h) (by assumption) (Or.inr ⟨by kernel_rfl, rfl⟩) ?_
            try simp only [Act.put, List.setIfInBounds_toArray, List.set_cons_zero, List.set_cons_succ]
            refine wpAnyL_take (i := 10) (oi := _) (v := undef) rfl (by kernel_rfl) (fun _ _ _ h => h) (by assumption) (Or.inr ⟨by kernel_rfl, rfl⟩) ?_
            try simp only [Act.put, List.setIfInBounds_toArray, List.set_cons_zero, List.set_cons_succ]
            refine wpAnyL_take (i := 11) (oi := _) (v := undef) rfl (by kernel_rfl) (fun _ _ _ h => h) (by assumption) (Or.inr ⟨by kernel_rfl, rfl⟩) ?_
            try simp only [Act.put, List.setIfInBounds_toArray, List.set_cons_zero, List.set_cons_succ]
            refine wpAnyL_take (i := 12) (oi := _) (v := undef) rfl (by kernel_rfl) (fun _ _ _ h => h) (by assumption) (Or.inr ⟨by kernel_rfl, rfl⟩) ?_
            try simp only [Act.put, List.setIfInBounds_toArray, List.set_cons_zero, List.set_cons_succ]
            refine wpAnyL_take (i := 13) (oi := _) (v := undef) rfl (by kernel_rfl) (fun _ _ _ h => h) (by assumption) (Or.inr ⟨by kernel_rfl, rfl⟩) ?_
            try simp only [Act.put, List.setIfInBounds_toArray, List.set_cons_zero, List.set_cons_succ]
            refine wpAnyL_take (i := 14) (oi := _) (v := undef) rfl (by kernel_rfl) (fun _ _ _ h => h) (by assumption) (Or.inr ⟨by kernel_rfl, rfl⟩) ?_
            try simp only [Act.put, List.setIfInBounds_toArray, List.set_cons_zero, List.set_cons_succ]
            refine wpAnyL_take (i := 15) (oi := _) (v := undef) rfl (by kernel_rfl) (fun _ _ _ h => h) (by assumption) (Or.inr ⟨by kernel_rfl, rfl⟩) ?_
            try simp only [Act.put, List.setIfInBounds_toArray, List.set_cons_zero, List.set_cons_succ]
            refine wpAnyL_last (j := 16) (o := _) (by kernel_rfl) rfl (by rfl) (by kernel_rfl) (fun K hK => ?_)
            go_simp
            (refine hK _ _ ?_; clear hK K)
            try simp only [Act.put, List.setIfInBounds_toArray, List.set_cons_zero, List.set_cons_succ]
            have hE := Lib.hid (HWW.out _ hHeld)
            clear hHeld
            have hsz := Nat.le_trans hW.out.size hE.out.size
            have hsz3 := Nat.le_trans hW.out.size hWa.out.size
            have hsz4 := hsz
            try simp at hsz4
            go_wp2_with (at_builtin; refine wpList_append_own _ rfl _ _ 26 rfl w.heap.size 3 i1 (.int .i64 0) 1 8 Tryz.underlying26 hj0 hy0 hy1 hy2 rfl (by decide) _ _ _ rfl ((HOWN.out _ hE.out).alloc _) ⟨_, 0, none⟩ 1 1 [.int .i64 0] rfl rfl (World.news_of_block (cs := #[.int .i64 0]) (t := 3) (fr := (0, 0)) (heap_alloc_new _ _)) (by simp [Value.oneCell']) (by unfold maxLen; omega) (by omega) (by simp; omega) ?_)
            intro v' w3 hown' hgrow hnil'
            have hB3 : Hid (Below w.heap.size w w3) := Lib.hid (((hW.out.trans (hE.out.mono hW.out.size)).alloc hsz _).grown hgrow (by simp; omega) (fun kk h => ((HOWN.out _ hE.out).lt kk h).1))
            clear hgrow hnil' hsz hsz3 hsz4
            rcases hown'.2 with ⟨-, h0⟩ | ⟨gg, cap, cur, rfl, hbase, hbk, r1⟩
            · exact absurd h0 (by omega)
            have hown3 : Hid (w3.ownsRow w.heap.size 3 1 (.slice (some ⟨gg, 0, none⟩) (s.length + 1) cap) (s.length + 1) ((holeS s s.length).map (Value.int .i64))) := Lib.hid (by
              rw [holeS_start, List.map_append]; exact hown')
            clear hown' hbk r1
            have hws : IntKind.i64.wrap ((s.length : Int) + 1 - 1) = (s.length : Int) := by rw [IntKind.wrap_i64]; omega
            go_wp2_with fail
            obtain ⟨wp, rfl⟩ : ∃ wp : World, wp = wr := ⟨_, rfl⟩
            go_loopw [6] (fun i wr => ∃ m : Nat, i = .int .i64 m ∧ a ≤ m ∧ m ≤ s.length ∧ Hid (wr.ownsRow w.heap.size 3 1 (.slice (some ⟨gg, 0, none⟩) (s.length + 1) cap) (s.length + 1) ((holeS s m).map (Value.int .i64))) ∧ Hid (Below w.heap.size w wr)) (fun i _ => (intOf i).toNat)
            case atStart => exact ⟨s.length, by go_num, ha, Nat.le_refl _, hown3, hB3⟩
            case round =>
              obtain ⟨n, rfl, han, hns, hO, hB⟩ := hrel
              have hsz2 := hB.out.size
              have hlenH := holeS_len hns
              have q7 : (n : Int) < (s.length : Int) + 1 := by omega
              have q8 : (0 : Int) ≤ (n : Int) := Int.natCast_nonneg _
              have f1 : wr.frozen? ⟨gg, n, none⟩ = false := World.ownsRow.frozenAt hO.out _
              have g1 : wr.cell? ⟨gg, n, none⟩ = some (.int .i64 ((holeS s n)[n]'(by omega))) := by
                rw [World.ownsRow.cellAt hO.out n (by omega), List.getElem?_map, List.getElem?_eq_getElem (by omega)]; rfl
              by_cases hgt : a < n
              · obtain ⟨q, rfl⟩ : ∃ q, n = q + 1 := ⟨n - 1, by omega⟩
                have g2 : wr.cell? ⟨gg, q, none⟩ = some (.int .i64 (s[q]'(by omega))) := by
                  rw [World.ownsRow.cellAt hO.out q (by omega), List.getElem?_map, holeS_get (by omega)]; rfl
                have hO2 : Hid ((wr.setCell ⟨gg, q + 1, none⟩ (.int .i64 (s[q]'(by omega)))).ownsRow w.heap.size 3 1 (.slice (some ⟨gg, 0, none⟩) (s.length + 1) cap) (s.length + 1) ((holeS s q).map (Value.int .i64))) := Lib.hid (by
                  have := (World.ownsRow.stored hO.out (q + 1) (.int .i64 (s[q]'(by omega)))).1
                  rw [← List.map_set, holeS_step (by omega)] at this
                  exact this)
                have hB2 := Lib.hid (hB.out.setCell (p := ⟨gg, q + 1, none⟩) hbase (.int .i64 (s[q]'(by omega))))
                have t1 : decide ((a : Int) < ((q + 1 : Nat) : Int)) = true := by simp; omega
                have hw2 : IntKind.i64.wrap (((q + 1 : Nat) : Int) - 1) = (q : Int) := by rw [IntKind.wrap_i64]; omega
                have q9 : (q : Int) < (s.length : Int) + 1 := by omega
                have q10 : (0 : Int) ≤ (q : Int) := Int.natCast_nonneg _
                clear hO hB
                generalize (holeS s (q + 1))[q + 1]'_ = z1 at *
                generalize s[q]'_ = z2 at *
                go_wp2_with fail
                go_roundw
                case rel => exact ⟨q, by go_num, by omega, by omega, hO2, hB2⟩
                case measure => first | (simp [intOf]; done) | (simp [intOf]; omega)
              · obtain rfl : n = a := by omega
                have hO2 : Hid ((wr.setCell ⟨gg, n, none⟩ (.int .i64 k)).ownsRow w.heap.size 3 1 (.slice (some ⟨gg, 0, none⟩) (s.length + 1) cap) (s.take n ++ (k : Int) :: s.drop n).length ((s.take n ++ (k : Int) :: s.drop n).map (Value.int .i64))) := Lib.hid (by
                  have := (World.ownsRow.stored hO.out n (.int .i64 k)).1
                  rw [← List.map_set, holeS_split hns] at this
                  rw [show (s.take n ++ (k : Int) :: s.drop n).length = s.length + 1 by rw [List.length_append, List.length_cons, List.length_take, List.length_drop]; omega]
                  exact this)
                have hB2 := Lib.hid (hB.out.setCell (p := ⟨gg, n, none⟩) hbase (.int .i64 k))
                have hI2 := Lib.hid (HINS.out n hns hlo.out (fun j hj h => hhi.out j hj h))
                have hl2 : (s.take n ++ (k : Int) :: s.drop n).length = s.length + 1 := by rw [List.length_append, List.length_cons, List.length_take, List.length_drop]; omega
                clear hO hB
                generalize (holeS s n)[n]'_ = z1 at *
                go_wp2_with fail
                go_roundw
                case rel => exact ⟨k + 1, _, by go_num, by omega, hO2, hI2, hB2⟩
                case measure => simp [intOf]; omega
          · obtain ⟨m, hm⟩ : ∃ m, m + 1 = a := ⟨a - 1, by omega⟩
            have hml : m < s.length := by omega
            obtain ⟨p, hpl, hp, hah⟩ := HLT.out m hml
            obtain ⟨g, goff, rfl, -, hgc⟩ := HIA.out _ hWa.out (by rintro rfl; simp at hml)
            have e1 := hgc m _ (List.getElem?_eq_getElem hml)
            rw [hp] at e1
            have HS := Lib.hid (srS_of (HCX.out _ (HSUB.out _ hWa.out)) (HC.out _ (HSUB.out _ hWa.out) p _ (List.getElem?_eq_getElem hpl)) e1)
            have t1 : decide (0 < (a : Int)) = true := by simp; omega
            have t1n : decide (0 < a) = true := by simp; omega
            have hw : IntKind.i64.wrap ((a : Int) - 1) = (m : Int) := by rw [IntKind.wrap_i64]; omega
            have q3 : (m : Int) < (s.length : Int) := by omega
            have q4 : (0 : Int) ≤ (m : Int) := Int.natCast_nonneg _
            have q5 : (p : Int) < (l.length : Int) := by omega
            have q6 : (0 : Int) ≤ (p : Int) := Int.natCast_nonneg _
            have HAH := Lib.hid hah
            clear hgc e1 hp hah ha0
            generalize l[p] = y at *
            cases hab : aheadB x y
            · have hlo : Hid (∀ j (hj : j < s.length), j + 1 = a → ltN l (k : Int) s[j] = false) := Lib.hid (fun j hj h => by
                have : j = m := by omega
                subst this
                rw [HAH.out, hab])
              clear HAH hm
              go_wp2_with fail
              refine wp_region_L (l := 16) (S := (SrS wr b (off + k * 8) x g (goff + m) (p : Int) (off + p * 8) y)) (by kernel_rfl) ?_ (fun hHeld => ?_)
              · ((try dsimp only); (exact HS.out _ (Below.refl _ _).drew))
              refine wpAnyL_take (i := 0) (oi := _) (v := ?v18) rfl (by kernel_rfl) (fun _ _ _ h => h) (by assumption) (Or.inl ⟨by kernel_rfl, ?y18⟩) ?r18
              case y18 => (intro w hSw; (try dsimp only at hSw); go_simp; all_goals with_reducible rfl)
              try simp only [Act.put, List.setIfInBounds_toArray, List.set_cons_zero, List.set_cons_succ]
              refine wpAnyL_take (i := 1) (oi := _) (v := ?v19) rfl (by kernel_rfl) (fun _ _ _ h => h) (by assumption) (Or.inl ⟨by kernel_rfl, ?y19⟩) ?r19
              case y19 => (intro w hSw; (try dsimp only at hSw); go_simp; all_goals with_reducible rfl)
              try simp only [Act.put, List.setIfInBounds_toArray, List.set_cons_zero, List.set_cons_succ]
              refine wpAnyL_take (i := 2) (oi := _) (v := ?v20) rfl (by kernel_rfl) (fun _ _ _ h => h) (by assumption) (Or.inl ⟨by kernel_rfl, ?y20⟩) ?r20
              case y20 => (intro w hSw; (try dsimp only at hSw); go_simp; all_goals with_reducible rfl)
              try simp only [Act.put, List.setIfInBounds_toArray, List.set_cons_zero, List.set_cons_succ]
              refine wpAnyL_take (i := 3) (oi := _) (v := ?v21) rfl (by kernel_rfl) (fun _ _ _ h => h) (by assumption) (Or.inl ⟨by kernel_rfl, ?y21⟩) ?r21
              case y21 => (intro w hSw; (try dsimp only at hSw); go_simp; all_goals with_reducible rfl)
              try simp only [Act.put, List.setIfInBounds_toArray, List.set_cons_zero, List.set_cons_succ]
              refine wpAnyL_take (i := 4) (oi := _) (v := ?v22) rfl (by kernel_rfl) (fun _ _ _ h => h) (by assumption) (Or.inl ⟨by kernel_rfl, ?y22⟩) ?r22
              case y22 => (intro w hSw; (try dsimp only at hSw); go_simp; all_goals with_reducible rfl)
              try simp only [Act.put, List.setIfInBounds_toArray, List.set_cons_zero, List.set_cons_succ]
              refine wpAnyL_take (i := 5) (oi := _) (v := ?v23) rfl (by kernel_rfl) (fun _ _ _ h => h) (by assumption) (Or.inl ⟨by kernel_rfl, ?y23⟩) ?r23
              case y23 => (intro w hSw; (try dsimp only at hSw); go_simp; all_goals with_reducible rfl)
              try simp only [Act.put, List.setIfInBounds_toArray, List.set_cons_zero, List.set_cons_succ]
              refine wpAnyL_take (i := 6) (oi := _) (v := ?v24) rfl (by kernel_rfl) (fun _ _ _ h => h) (by assumption) (Or.inl ⟨by kernel_rfl, ?y24⟩) ?r24
              case y24 => (intro w hSw; (try dsimp only at hSw); go_simp; all_goals with_reducible rfl)
              try simp only [Act.put, List.setIfInBounds_toArray, List.set_cons_zero, List.set_cons_succ]
              refine wpAnyL_take (i := 7) (oi := _) (v := ?v25) rfl (by kernel_rfl) (fun _ _ _ h => h) (by assumption) (Or.inl ⟨by kernel_rfl, ?y25⟩) ?r25
              case y25 => (intro w hSw; (try dsimp only at hSw); go_simp; all_goals with_reducible rfl)
              try simp only [Act.put, List.setIfInBounds_toArray, List.set_cons_zero, List.set_cons_succ]
              refine wpAnyL_take (i := 8) (oi := _) (v := ?v26) rfl (by kernel_rfl) (fun _ _ _ h => h) (by assumption) (Or.inl ⟨by kernel_rfl, ?y26⟩) ?r26
              case y26 => (intro w hSw; (try dsimp only at hSw); go_simp; all_goals with_reducible rfl)
              try simp only [Act.put, List.setIfInBounds_toArray, List.set_cons_zero, List.set_cons_succ]
              refine wpAnyL_take (i := 9) (oi := _) (v := ?v27) rfl (by kernel_rfl) (fun _ _ _ h => h) (by assumption) (Or.inl ⟨by kernel_rfl, ?y27⟩) ?r27
              case y27 => (intro w hSw; (try dsimp only at hSw); go_simp; all_goals with_reducible rfl)
              try simp only [Act.put, List.setIfInBounds_toArray, List.set_cons_zero, List.set_cons_succ]
              refine wpAnyL_take (i := 10) (oi := _) (v := ?v28) rfl (by kernel_rfl) (fun _ _ _ h => h) (by assumption) (Or.inl ⟨by kernel_rfl, ?y28⟩) ?r28
              case y28 => (intro w hSw; (try dsimp only at hSw); go_simp; all_goals with_reducible rfl)
              try simp only [Act.put, List.setIfInBounds_toArray, List.set_cons_zero, List.set_cons_succ]
              refine wpAnyL_take (i := 11) (oi := _) (v := ?v29) rfl (by kernel_rfl) (fun _ _ _ h => h) (by assumption) (Or.inl ⟨by kernel_rfl, ?y29⟩) ?r29
              case y29 => (intro w hSw; (try dsimp only at hSw); go_simp; all_goals with_reducible rfl)
              try simp only [Act.put, List.setIfInBounds_toArray, List.set_cons_zero, List.set_cons_succ]
              refine wpAnyL_take (i := 12) (oi := _) (v := ?v30) rfl (by kernel_rfl) (fun _ _ _ h => h) (by assumption) (Or.inl ⟨by kernel_rfl, ?y30⟩) ?r30
              case y30 => (intro w hSw; (try dsimp only at hSw); go_simp; all_goals with_reducible rfl)
              try simp only [Act.put, List.setIfInBounds_toArray, List.set_cons_zero, List.set_cons_succ]
              refine wpAnyL_take (i := 13) (oi := _) (v := ?v31) rfl (by kernel_rfl) (fun _ _ _ h => h) (by assumption) (Or.inl ⟨by kernel_rfl, ?y31⟩) ?r31
              case y31 => (intro w hSw; (try dsimp only at hSw); go_simp; all_goals with_reducible rfl)
              try simp only [Act.put, List.setIfInBounds_toArray, List.set_cons_zero, List.set_cons_succ]
              refine wpAnyL_take (i := 14) (oi := _) (v := ?v32) rfl (by kernel_rfl) (fun _ _ _ h => h) (by assumption) (Or.inl ⟨by kernel_rfl, ?y32⟩) ?r32
              case y32 => (intro w hSw; (try dsimp only at hSw); go_simp; all_goals with_reducible rfl)
              try simp only [Act.put, List.setIfInBounds_toArray, List.set_cons_zero, List.set_cons_succ]
              refine wpAnyL_step (j := 15) (o := _) (by kernel_rfl) rfl (fun K hK => ?_)
              (go_simp; go_at_call 133; refine (rfAhead_any _ _ _ _ _ _ _ _ _ _ _ _ _ _ _ _ x y ⟨rfl, rfl, rfl⟩ ⟨rfl, rfl, rfl⟩ _).mono ?_; rintro e w4 ⟨rfl, hb4⟩; rw [hab])
              refine hK _ _ ?_ (fun hHeld => ?_)
              · ((try dsimp only); (exact HS.out _ (hHeld.1.trans (hb4.mono hHeld.1.size))))
              clear hK K
              try simp only [Act.put, List.setIfInBounds_toArray, List.set_cons_zero, List.set_cons_succ]
              refine wpAnyL_last (j := 16) (o := _) (by kernel_rfl) rfl (by rfl) (by kernel_rfl) (fun K hK => ?_)
              go_simp
              (refine hK _ _ ?_; clear hK K)
              try simp only [Act.put, List.setIfInBounds_toArray, List.set_cons_zero, List.set_cons_succ]
              have hE := Lib.hid (HWW.out _ hHeld.1)
              clear hHeld
              have hsz := Nat.le_trans hW.out.size hE.out.size
              have hsz3 := Nat.le_trans hW.out.size hWa.out.size
              have hsz4 := hsz
              try simp at hsz4
              go_wp2_with (at_builtin; refine wpList_append_own _ rfl _ _ 26 rfl w.heap.size 3 i1 (.int .i64 0) 1 8 Tryz.underlying26 hj0 hy0 hy1 hy2 rfl (by decide) _ _ _ rfl ((HOWN.out _ hE.out).alloc _) ⟨_, 0, none⟩ 1 1 [.int .i64 0] rfl rfl (World.news_of_block (cs := #[.int .i64 0]) (t := 3) (fr := (0, 0)) (heap_alloc_new _ _)) (by simp [Value.oneCell']) (by unfold maxLen; omega) (by omega) (by simp; omega) ?_)
              intro v' w3 hown' hgrow hnil'
              have hB3 : Hid (Below w.heap.size w w3) := Lib.hid (((hW.out.trans (hE.out.mono hW.out.size)).alloc hsz _).grown hgrow (by simp; omega) (fun kk h => ((HOWN.out _ hE.out).lt kk h).1))
              clear hgrow hnil' hsz hsz3 hsz4
              rcases hown'.2 with ⟨-, h0⟩ | ⟨gg, cap, cur, rfl, hbase, hbk, r1⟩
              · exact absurd h0 (by omega)
              have hown3 : Hid (w3.ownsRow w.heap.size 3 1 (.slice (some ⟨gg, 0, none⟩) (s.length + 1) cap) (s.length + 1) ((holeS s s.length).map (Value.int .i64))) := Lib.hid (by
                rw [holeS_start, List.map_append]; exact hown')
              clear hown' hbk r1
              have hws : IntKind.i64.wrap ((s.length : Int) + 1 - 1) = (s.length : Int) := by rw [IntKind.wrap_i64]; omega
              go_wp2_with fail
              obtain ⟨wp, rfl⟩ : ∃ wp : World, wp = wr := ⟨_, rfl⟩
              go_loopw [6] (fun i wr => ∃ m : Nat, i = .int .i64 m ∧ a ≤ m ∧ m ≤ s.length ∧ Hid (wr.ownsRow w.heap.size 3 1 (.slice (some ⟨gg, 0, none⟩) (s.length + 1) cap) (s.length + 1) ((holeS s m).map (Value.int .i64))) ∧ Hid (Below w.heap.size w wr)) (fun i _ => (intOf i).toNat)
              case atStart => exact ⟨s.length, by go_num, ha, Nat.le_refl _, hown3, hB3⟩
              case round =>
                obtain ⟨n, rfl, han, hns, hO, hB⟩ := hrel
                have hsz2 := hB.out.size
                have hlenH := holeS_len hns
                have q7 : (n : Int) < (s.length : Int) + 1 := by omega
                have q8 : (0 : Int) ≤ (n : Int) := Int.natCast_nonneg _
                have f1 : wr.frozen? ⟨gg, n, none⟩ = false := World.ownsRow.frozenAt hO.out _
                have g1 : wr.cell? ⟨gg, n, none⟩ = some (.int .i64 ((holeS s n)[n]'(by omega))) := by
                  rw [World.ownsRow.cellAt hO.out n (by omega), List.getElem?_map, List.getElem?_eq_getElem (by omega)]; rfl
                by_cases hgt : a < n
                · obtain ⟨q, rfl⟩ : ∃ q, n = q + 1 := ⟨n - 1, by omega⟩
                  have g2 : wr.cell? ⟨gg, q, none⟩ = some (.int .i64 (s[q]'(by omega))) := by
                    rw [World.ownsRow.cellAt hO.out q (by omega), List.getElem?_map, holeS_get (by omega)]; rfl
                  have hO2 : Hid ((wr.setCell ⟨gg, q + 1, none⟩ (.int .i64 (s[q]'(by omega)))).ownsRow w.heap.size 3 1 (.slice (some ⟨gg, 0, none⟩) (s.length + 1) cap) (s.length + 1) ((holeS s q).map (Value.int .i64))) := Lib.hid (by
                    have := (World.ownsRow.stored hO.out (q + 1) (.int .i64 (s[q]'(by omega)))).1
                    rw [← List.map_set, holeS_step (by omega)] at this
                    exact this)
                  have hB2 := Lib.hid (hB.out.setCell (p := ⟨gg, q + 1, none⟩) hbase (.int .i64 (s[q]'(by omega))))
                  have t1 : decide ((a : Int) < ((q + 1 : Nat) : Int)) = true := by simp; omega
                  have hw2 : IntKind.i64.wrap (((q + 1 : Nat) : Int) - 1) = (q : Int) := by rw [IntKind.wrap_i64]; omega
                  have q9 : (q : Int) < (s.length : Int) + 1 := by omega
                  have q10 : (0 : Int) ≤ (q : Int) := Int.natCast_nonneg _
                  clear hO hB
                  generalize (holeS s (q + 1))[q + 1]'_ = z1 at *
                  generalize s[q]'_ = z2 at *
                  go_wp2_with fail
                  go_roundw
                  case rel => exact ⟨q, by go_num, by omega, by omega, hO2, hB2⟩
                  case measure => first | (simp [intOf]; done) | (simp [intOf]; omega)
                · obtain rfl : n = a := by omega
                  have hO2 : Hid ((wr.setCell ⟨gg, n, none⟩ (.int .i64 k)).ownsRow w.heap.size 3 1 (.slice (some ⟨gg, 0, none⟩) (s.length + 1) cap) (s.take n ++ (k : Int) :: s.drop n).length ((s.take n ++ (k : Int) :: s.drop n).map (Value.int .i64))) := Lib.hid (by
                    have := (World.ownsRow.stored hO.out n (.int .i64 k)).1
                    rw [← List.map_set, holeS_split hns] at this
                    rw [show (s.take n ++ (k : Int) :: s.drop n).length = s.length + 1 by rw [List.length_append, List.length_cons, List.length_take, List.length_drop]; omega]
                    exact this)
                  have hB2 := Lib.hid (hB.out.setCell (p := ⟨gg, n, none⟩) hbase (.int .i64 k))
                  have hI2 := Lib.hid (HINS.out n hns hlo.out (fun j hj h => hhi.out j hj h))
                  have hl2 : (s.take n ++ (k : Int) :: s.drop n).length = s.length + 1 := by rw [List.length_append, List.length_cons, List.length_take, List.length_drop]; omega
                  clear hO hB
                  generalize (holeS s n)[n]'_ = z1 at *
                  go_wp2_with fail
                  go_roundw
                  case rel => exact ⟨k + 1, _, by go_num, by omega, hO2, hI2, hB2⟩
                  case measure => simp [intOf]; omega
            · have hhi2 : Hid (∀ j (hj : j < s.length), m ≤ j → ltN l (k : Int) s[j] = true) := Lib.hid (fun j hj h => by
                by_cases e : j = m
                · subst e; rw [HAH.out, hab]
                · exact hhi.out j hj (by omega))
              clear HAH
              go_wp2_with fail
              refine wp_region_L (l := 16) (S := (SrS wr b (off + k * 8) x g (goff + m) (p : Int) (off + p * 8) y)) (by kernel_rfl) ?_ (fun hHeld => ?_)
              · ((try dsimp only); (exact HS.out _ (Below.refl _ _).drew))
              refine wpAnyL_take (i := 0) (oi := _) (v := ?v35) rfl (by kernel_rfl) (fun _ _ _ h => h) (by assumption) (Or.inl ⟨by kernel_rfl, ?y35⟩) ?r35
              case y35 => (intro w hSw; (try dsimp only at hSw); go_simp; all_goals with_reducible rfl)
              try simp only [Act.put, List.setIfInBounds_toArray, List.set_cons_zero, List.set_cons_succ]
              refine wpAnyL_take (i := 1) (oi := _) (v := ?v36) rfl (by kernel_rfl) (fun _ _ _ h => h) (by assumption) (Or.inl ⟨by kernel_rfl, ?y36⟩) ?r36
              case y36 => (intro w hSw; (try dsimp only at hSw); go_simp; all_goals with_reducible rfl)
              try simp only [Act.put, List.setIfInBounds_toArray, List.set_cons_zero, List.set_cons_succ]
              refine wpAnyL_take (i := 2) (oi := _) (v := ?v37) rfl (by kernel_rfl) (fun _ _ _ h => h) (by assumption) (Or.inl ⟨by kernel_rfl, ?y37⟩) ?r37
              case y37 => (intro w hSw; (try dsimp only at hSw); go_simp; all_goals with_reducible rfl)
              try simp only [Act.put, List.setIfInBounds_toArray, List.set_cons_zero, List.set_cons_succ]
              refine wpAnyL_take (i := 3) (oi := _) (v := ?v38) rfl (by kernel_rfl) (fun _ _ _ h => h) (by assumption) (Or.inl ⟨by kernel_rfl, ?y38⟩) ?r38
              case y38 => (intro w hSw; (try dsimp only at hSw); go_simp; all_goals with_reducible rfl)
              try simp only [Act.put, List.setIfInBounds_toArray, List.set_cons_zero, List.set_cons_succ]
              refine wpAnyL_take (i := 4) (oi := _) (v := ?v39) rfl (by kernel_rfl) (fun _ _ _ h => h) (by assumption) (Or.inl ⟨by kernel_rfl, ?y39⟩) ?r39
              case y39 => (intro w hSw; (try dsimp only at hSw); go_simp; all_goals with_reducible rfl)
              try simp only [Act.put, List.setIfInBounds_toArray, List.set_cons_zero, List.set_cons_succ]
              refine wpAnyL_take (i := 5) (oi := _) (v := ?v40) rfl (by kernel_rfl) (fun _ _ _ h => h) (by assumption) (Or.inl ⟨by kernel_rfl, ?y40⟩) ?r40
              case y40 => (intro w hSw; (try dsimp only at hSw); go_simp; all_goals with_reducible rfl)
              try simp only [Act.put, List.setIfInBounds_toArray, List.set_cons_zero, List.set_cons_succ]
              refine wpAnyL_take (i := 6) (oi := _) (v := ?v41) rfl (by kernel_rfl) (fun _ _ _ h => h) (by assumption) (Or.inl ⟨by kernel_rfl, ?y41⟩) ?r41
              case y41 => (intro w hSw; (try dsimp only at hSw); go_simp; all_goals with_reducible rfl)
              try simp only [Act.put, List.setIfInBounds_toArray, List.set_cons_zero, List.set_cons_succ]
              refine wpAnyL_take (i := 7) (oi := _) (v := ?v42) rfl (by kernel_rfl) (fun _ _ _ h => h) (by assumption) (Or.inl ⟨by kernel_rfl, ?y42⟩) ?r42
              case y42 => (intro w hSw; (try dsimp only at hSw); go_simp; all_goals with_reducible rfl)
              try simp only [Act.put, List.setIfInBounds_toArray, List.set_cons_zero, List.set_cons_succ]
              refine wpAnyL_take (i := 8) (oi := _) (v := ?v43) rfl (by kernel_rfl) (fun _ _ _ h => h) (by assumption) (Or.inl ⟨by kernel_rfl, ?y43⟩) ?r43
              case y43 => (intro w hSw; (try dsimp only at hSw); go_simp; all_goals with_reducible rfl)
              try simp only [Act.put, List.setIfInBounds_toArray, List.set_cons_zero, List.set_cons_succ]
              refine wpAnyL_take (i := 9) (oi := _) (v := ?v44) rfl (by kernel_rfl) (fun _ _ _ h => h) (by assumption) (Or.inl ⟨by kernel_rfl, ?y44⟩) ?r44
              case y44 => (intro w hSw; (try dsimp only at hSw); go_simp; all_goals with_reducible rfl)
              try simp only [Act.put, List.setIfInBounds_toArray, List.set_cons_zero, List.set_cons_succ]
              refine wpAnyL_take (i := 10) (oi := _) (v := ?v45) rfl (by kernel_rfl) (fun _ _ _ h => h) (by assumption) (Or.inl ⟨by kernel_rfl, ?y45⟩) ?r45
              case y45 => (intro w hSw; (try dsimp only at hSw); go_simp; all_goals with_reducible rfl)
              try simp only [Act.put, List.setIfInBounds_toArray, List.set_cons_zero, List.set_cons_succ]
              refine wpAnyL_take (i := 11) (oi := _) (v := ?v46) rfl (by kernel_rfl) (fun _ _ _ h => h) (by assumption) (Or.inl ⟨by kernel_rfl, ?y46⟩) ?r46
              case y46 => (intro w hSw; (try dsimp only at hSw); go_simp; all_goals with_reducible rfl)
              try simp only [Act.put, List.setIfInBounds_toArray, List.set_cons_zero, List.set_cons_succ]
              refine wpAnyL_take (i := 12) (oi := _) (v := ?v47) rfl (by kernel_rfl) (fun _ _ _ h => h) (by assumption) (Or.inl ⟨by kernel_rfl, ?y47⟩) ?r47
              case y47 => (intro w hSw; (try dsimp only at hSw); go_simp; all_goals with_reducible rfl)
              try simp only [Act.put, List.setIfInBounds_toArray, List.set_cons_zero, List.set_cons_succ]
              refine wpAnyL_take (i := 13) (oi := _) (v := ?v48) rfl (by kernel_rfl) (fun _ _ _ h => h) (by assumption) (Or.inl ⟨by kernel_rfl, ?y48⟩) ?r48
              case y48 => (intro w hSw; (try dsimp only at hSw); go_simp; all_goals with_reducible rfl)
              try simp only [Act.put, List.setIfInBounds_toArray, List.set_cons_zero, List.set_cons_succ]
              refine wpAnyL_take (i := 14) (oi := _) (v := ?v49) rfl (by kernel_rfl) (fun _ _ _ h => h) (by assumption) (Or.inl ⟨by kernel_rfl, ?y49⟩) ?r49
              case y49 => (intro w hSw; (try dsimp only at hSw); go_simp; all_goals with_reducible rfl)
              try simp only [Act.put, List.setIfInBounds_toArray, List.set_cons_zero, List.set_cons_succ]
              refine wpAnyL_step (j := 15) (o := _) (by kernel_rfl) rfl (fun K hK => ?_)
              (go_simp; go_at_call 133; refine (rfAhead_any _ _ _ _ _ _ _ _ _ _ _ _ _ _ _ _ x y ⟨rfl, rfl, rfl⟩ ⟨rfl, rfl, rfl⟩ _).mono ?_; rintro e w4 ⟨rfl, hb4⟩; rw [hab])
              refine hK _ _ ?_ (fun hHeld => ?_)
              · ((try dsimp only); (exact HS.out _ (hHeld.1.trans (hb4.mono hHeld.1.size))))
              clear hK K
              try simp only [Act.put, List.setIfInBounds_toArray, List.set_cons_zero, List.set_cons_succ]
              refine wpAnyL_last (j := 16) (o := _) (by kernel_rfl) rfl (by rfl) (by kernel_rfl) (fun K hK => ?_)
              go_simp
              (refine hK _ _ ?_; clear hK K)
              try simp only [Act.put, List.setIfInBounds_toArray, List.set_cons_zero, List.set_cons_succ]
              have hE := Lib.hid (HWW.out _ hHeld.1)
              clear hHeld
              go_wp2_with fail
              go_roundw
              case rel => exact ⟨m, by go_num, by omega, hhi2, hE⟩
              case measure => simp [intOf]; omega
      · have t1 : (l[k].kd == 1) = false := by simpa using hkd
        have t2 : decide (l[k].kd = 1) = false := by simpa using hkd
        have hI2 := Lib.hid (hI.out.skip hlt hkd)
        clear hI hkd hge
        go_wp2_with fail
        go_roundw
        case rel => exact ⟨k + 1, s, by go_num, by omega, hown, hI2, hW⟩
        case measure => simp [intOf]; omega
    · have hkl : k = l.length := by omega
      have hs : s = ord := HDONE.out s (hkl ▸ hI.out)
      obtain ⟨B, cap, rfl, hIA⟩ := intsAt_own hown.out
      have HIA := Lib.hid hIA
      subst hs
      clear hkl hI hIA hown
      go_wp2_with fail
      go_ret
      exact ⟨⟨B, cap, rfl, HIA.out⟩, hW.out⟩
end Go.Proofs.YtjaegddnikkibaaGreatDoor
