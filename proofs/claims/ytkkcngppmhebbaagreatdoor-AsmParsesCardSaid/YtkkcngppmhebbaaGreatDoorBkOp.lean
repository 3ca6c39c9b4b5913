/-
  The book's lists of kind Op: filled, grown, looked at, kept.
-/
import Derived.Test.YtkkcngppmhebbaaGreatDoorProg
import Derived.Test.YtkkcngppmhebbaaGreatDoorBookPlain
import Derived.Test.YtkkcngppmhebbaaGreatDoorRegion
import Derived.Deep.QuietTactic
import Derived.Deep.OwnRows
import Derived.Deep.AppendLies
import Derived.WalkKit
import Derived.Lib.Hide
set_option linter.unusedVariables false
set_option linter.unusedSimpArgs false
namespace Go.Proofs.YtkkcngppmhebbaaGreatDoor
open Go.RowKit

def mOp (n : Int) : List Value := [.int .u8 99, .int .u8 0, .int .u8 0, .int .u8 0, .int .u8 0, .int .i64 (-1000 - n)]
set_option maxHeartbeats 400000 in
theorem markOp_any (n : Int) (h1 : 0 ≤ n) (h2 : n ≤ 1000000) (w : World) : Calls Tryz.prog 123 #[.int .i64 n] w fun e w' => e = .returned (.agg #[.int .u8 99, .int .u8 0, .int .u8 0, .int .u8 0, .int .u8 0, .int .i64 (-1000 - n)]) ∧ Below w.heap.size w w' := by
  go_enter Tryz.func123, Tryz.ntmps123
  go_wp2
  exact bodyPost_ret (v := .agg #[.int .u8 99, .int .u8 0, .int .u8 0, .int .u8 0, .int .u8 0, .int .i64 (-1000 - n)]) (by simp [results, Tryz.results123, go_sem]) rfl ⟨rfl, (Below.refl _ _).alloc (Nat.le_refl _) _⟩
abbrev IsOpS (w0 : World) (X : Nat) (n : Int) (W : World) : Prop := Below w0.heap.size w0 W ∧ W.cell? ⟨X, 0, none⟩ = some (.int .u8 99) ∧ W.cell? ⟨X, 1, none⟩ = some (.int .u8 0) ∧ W.cell? ⟨X, 2, none⟩ = some (.int .u8 0) ∧ W.cell? ⟨X, 3, none⟩ = some (.int .u8 0) ∧ W.cell? ⟨X, 4, none⟩ = some (.int .u8 0) ∧ W.cell? ⟨X, 5, none⟩ = some (.int .i64 (-1000 - n))
set_option maxHeartbeats 1000000 in
set_option maxRecDepth 100000 in
theorem isOp_any (n : Int) (h1 : 0 ≤ n) (h2 : n ≤ 1000000) (w : World) : Calls Tryz.prog 149 #[.agg #[.int .u8 99, .int .u8 0, .int .u8 0, .int .u8 0, .int .u8 0, .int .i64 (-1000 - n)], .int .i64 n] w fun e w' => e = .returned (.bool true) ∧ Below w.heap.size w w' := by
  obtain ⟨X, hX⟩ : ∃ X, w.heap.size = X := ⟨_, rfl⟩
  obtain ⟨w0, hw0⟩ : ∃ w0, w.alloc (.cells #[.int .u8 99, .int .u8 0, .int .u8 0, .int .u8 0, .int .u8 0, .int .i64 (-1000 - n)] 79 (0, 0)) = w0 := ⟨_, rfl⟩
  have HB0 : Hid (Below w.heap.size w w0) := Lib.hid (by rw [← hw0]; exact (Below.refl _ _).alloc (Nat.le_refl _) _)
  have d0 : w0.cell? ⟨X, 0, none⟩ = some (.int .u8 99) := by rw [← hw0, ← hX]; simp
  have d1 : w0.cell? ⟨X, 1, none⟩ = some (.int .u8 0) := by rw [← hw0, ← hX]; simp
  have d2 : w0.cell? ⟨X, 2, none⟩ = some (.int .u8 0) := by rw [← hw0, ← hX]; simp
  have d3 : w0.cell? ⟨X, 3, none⟩ = some (.int .u8 0) := by rw [← hw0, ← hX]; simp
  have d4 : w0.cell? ⟨X, 4, none⟩ = some (.int .u8 0) := by rw [← hw0, ← hX]; simp
  have d5 : w0.cell? ⟨X, 5, none⟩ = some (.int .i64 (-1000 - n)) := by rw [← hw0, ← hX]; simp
  have hXl : X < w0.heap.size := by rw [← hw0, ← hX]; simp
  have HS := Lib.hid (fun W (h : Below w0.heap.size w0 W) => (⟨h, (h.cell (p := ⟨X, 0, none⟩) hXl).trans d0, (h.cell (p := ⟨X, 1, none⟩) hXl).trans d1, (h.cell (p := ⟨X, 2, none⟩) hXl).trans d2, (h.cell (p := ⟨X, 3, none⟩) hXl).trans d3, (h.cell (p := ⟨X, 4, none⟩) hXl).trans d4, (h.cell (p := ⟨X, 5, none⟩) hXl).trans d5⟩ : IsOpS w0 X n W))
  have HE := Lib.hid (fun W (h : Below w0.heap.size w0 W) => HB0.out.trans (h.mono HB0.out.size))
  clear hXl d0 d1 d2 d3 d4 d5
  go_enter Tryz.func149, Tryz.ntmps149
  go_wp2_with fail
  clear hw0 hX
  refine wp_region_L (l := 4) (S := (IsOpS w0 X n)) (by kernel_rfl) ?_ (fun hHeld => ?_)
  · ((try dsimp only); (exact HS.out _ (Below.refl _ _).drew))
  refine wpAnyL_take (i := 0) (oi := _) (v := ?v1) rfl (by kernel_rfl) (fun _ _ _ h => h) (by assumption) (Or.inl ⟨by kernel_rfl, ?y1⟩) ?r1
  case y1 => (intro w hSw; (try dsimp only at hSw); go_simp; all_goals with_reducible rfl)
  try simp only [List.getElem_toArray, List.getElem_cons_zero, List.getElem_cons_succ, Act.put, List.setIfInBounds_toArray, List.set_cons_zero, List.set_cons_succ]
  refine wpAnyL_take (i := 1) (oi := _) (v := ?v2) rfl (by kernel_rfl) (fun _ _ _ h => h) (by assumption) (Or.inl ⟨by kernel_rfl, ?y2⟩) ?r2
  case y2 => (intro w hSw; (try dsimp only at hSw); go_simp; all_goals with_reducible rfl)
  try simp only [List.getElem_toArray, List.getElem_cons_zero, List.getElem_cons_succ, Act.put, List.setIfInBounds_toArray, List.set_cons_zero, List.set_cons_succ]
  refine wpAnyL_step (j := 2) (o := _) (by kernel_rfl) rfl (fun K hK => ?_)
  (go_simp; go_at_call 123; refine (markOp_any n h1 h2 _).mono ?_; rintro e w4 ⟨rfl, hb4⟩)
  refine hK _ _ ?_ (fun hHeld => ?_)
  · ((try dsimp only); (exact HS.out _ (hHeld.1.trans (hb4.mono hHeld.1.size))))
  clear hK K
  try simp only [List.getElem_toArray, List.getElem_cons_zero, List.getElem_cons_succ, Act.put, List.setIfInBounds_toArray, List.set_cons_zero, List.set_cons_succ]
  refine wpAnyL_take (i := 3) (oi := _) (v := ?v4) rfl (by kernel_rfl) (fun _ _ _ h => h) (by assumption) (Or.inl ⟨by kernel_rfl, ?y4⟩) ?r4
  case y4 => (intro w hSw; (try dsimp only at hSw); go_simp; all_goals with_reducible rfl)
  try simp only [List.getElem_toArray, List.getElem_cons_zero, List.getElem_cons_succ, Act.put, List.setIfInBounds_toArray, List.set_cons_zero, List.set_cons_succ]
  refine wpAnyL_last (j := 4) (o := _) (by kernel_rfl) rfl (by rfl) (by kernel_rfl) (fun K hK => ?_)
  go_simp
  (refine hK _ _ ?_; clear hK K)
  try simp only [List.getElem_toArray, List.getElem_cons_zero, List.getElem_cons_succ, Act.put, List.setIfInBounds_toArray, List.set_cons_zero, List.set_cons_succ]
  have hE2 := Lib.hid (HE.out _ hHeld.1)
  clear hHeld
  go_wp2_with fail
  go_ret
  exact ⟨rfl, hE2.out⟩

abbrev FiOpS (w0 : World) (H i : Nat) (rv : Value) (rnum : Int) (g k : Nat) (u0 u1 u2 u3 u4 u5 : Value) (W : World) : Prop :=
  Below w0.heap.size w0 W ∧ W.cell? ⟨H, i * 2, none⟩ = some rv ∧ W.cell? ⟨H, i * 2 + 1, none⟩ = some (.int .i64 rnum) ∧ W.cell? ⟨g, k * 6, none⟩ = some u0 ∧ W.frozen? ⟨g, k * 6, none⟩ = false ∧ W.cell? ⟨g, k * 6 + 1, none⟩ = some u1 ∧ W.frozen? ⟨g, k * 6 + 1, none⟩ = false ∧ W.cell? ⟨g, k * 6 + 2, none⟩ = some u2 ∧ W.frozen? ⟨g, k * 6 + 2, none⟩ = false ∧ W.cell? ⟨g, k * 6 + 3, none⟩ = some u3 ∧ W.frozen? ⟨g, k * 6 + 3, none⟩ = false ∧ W.cell? ⟨g, k * 6 + 4, none⟩ = some u4 ∧ W.frozen? ⟨g, k * 6 + 4, none⟩ = false ∧ W.cell? ⟨g, k * 6 + 5, none⟩ = some u5 ∧ W.frozen? ⟨g, k * 6 + 5, none⟩ = false
set_option maxHeartbeats 4000000 in
set_option maxRecDepth 100000 in
theorem fillOp_any (K B : Nat) (kc : Array Value) (v : Value) (rows : List HRow) (w : World) (hK : w.heap[K]? = some (.cells kc 55 (0, 0))) (hk : kc[7]? = some v) (hH : Held 79 124 6 B w v rows) (hn : rows.length ≤ 1000)
    (hb : ∀ r ∈ rows, r.n ≤ 1000000000 ∧ 0 ≤ r.num ∧ r.num ≤ 1000) :
    Calls Tryz.prog 28 #[.pointer (some ⟨K, 0, none⟩)] w fun e w' => e = .returned (.tuple #[]) ∧ Held 79 124 6 B w' v (rows.map (filled mOp)) ∧ FrB B (fun t => t == 79) w w' := by
  have HK := Lib.hid (fun W (h : FrB B (fun t => t == 79) w W) => (cell_of_row W K 7 kc 55 (0, 0) (h.obj hK (by decide))).trans hk)
  have HB := Lib.hid hb
  obtain ⟨A, cap, rfl⟩ := hH.len
  have HS0 : Hid (Held 79 124 6 B w (.slice A rows.length cap) (half (filled mOp) rows 0)) := Lib.hid hH
  have c0 := HK.out w (FrB.refl w)
  clear hK hk hH hb
  go_enter Tryz.func28, Tryz.ntmps28
  go_wp2_with fail
  clear c0
  go_loopw [10] (fun i wr => ∃ i' : Nat, i = .int .i64 i' ∧ i' ≤ rows.length ∧ Hid (Held 79 124 6 B wr (.slice A rows.length cap) (half (filled mOp) rows i')) ∧ Hid (FrB B (fun t => t == 79) w wr)) (fun i _ => rows.length - (intOf i).toNat)
  case atStart => exact ⟨0, rfl, Nat.zero_le _, HS0, Lib.hid (FrB.refl _)⟩
  case round =>
    clear HS0
    obtain ⟨i, rfl, hi, hH, hW⟩ := hrel
    have c0 := HK.out _ hW.out
    by_cases hlt : i < rows.length
    · obtain ⟨H, cap', hsl⟩ := hH.out.slice (by rw [half_size]; omega)
      injection hsl with hsl1 hsl0 hsl2
      subst hsl1; subst hsl2
      clear hsl0
      have hri := half_at (filled mOp) rows i hlt
      have hnx := Lib.hid (half_next (filled mOp) rows i hlt)
      obtain ⟨d0, -, -⟩ := hH.out.cells hri
      obtain ⟨b1, b2, b3⟩ := HB.out _ (List.getElem_mem hlt)
      have ho := hH.out.own i _ hri
      have HL : Hid (rows[i].xs.length = rows[i].n * 6) := Lib.hid ho.1
      have HZ : Hid (Held 79 124 6 B wr (.slice (some ⟨H, 0, none⟩) rows.length cap) ((half (filled mOp) rows i).set i (fillK mOp 6 rows[i] 0))) := Lib.hid (by rw [fillK_zero, set_self hri]; exact hH.out)
      have hhs : i < (half (filled mOp) rows i).length := by rw [half_size]; exact hlt
      have q1 : (i : Int) < (rows.length : Int) := by omega
      have q2 : (0 : Int) ≤ (i : Int) := Int.natCast_nonneg _
      clear hri hH
      generalize rows[i] = r at *
      obtain ⟨rv, rn, rxs, rnum⟩ := r
      dsimp only at d0 b1 b2 b3 ho
      obtain ⟨A2, cap2, rfl⟩ : ∃ A2 cap2, rv = .slice A2 rn cap2 := by
        rcases ho.2 with ⟨rfl, h0⟩ | ⟨g, cp, cur, rfl, -⟩
        · exact ⟨none, 0, by rw [h0]⟩
        · exact ⟨_, cp, rfl⟩
      clear ho
      generalize half (filled mOp) rows i = L at *
      go_wp2_with fail
      clear c0 d0
      obtain ⟨wo, rfl⟩ : ∃ wo : World, wo = wr := ⟨_, rfl⟩
      go_loopw [24] (fun i2 wr => ∃ k : Nat, i2 = .int .i64 k ∧ k ≤ rn ∧ Hid (Held 79 124 6 B wr (.slice (some ⟨H, 0, none⟩) rows.length cap) (L.set i (fillK mOp 6 ⟨.slice A2 rn cap2, rn, rxs, rnum⟩ k))) ∧ Hid (FrB B (fun t => t == 79) w wr)) (fun i2 _ => rn - (intOf i2).toNat)
      case atStart => exact ⟨0, rfl, Nat.zero_le _, HZ, hW⟩
      case round =>
        clear HZ hW
        obtain ⟨k, rfl, hk, hH, hW⟩ := hrel
        by_cases hkl : k < rn
        · have hrk := set_at (fillK mOp 6 ⟨.slice A2 rn cap2, rn, rxs, rnum⟩ k) hhs
          obtain ⟨d0, d1, fz⟩ := hH.out.cells hrk
          have ho := hH.out.own i _ hrk
          simp only [fillK] at d0 d1 ho
          obtain ⟨g, rfl⟩ : ∃ g, A2 = some ⟨g, 0, none⟩ := by
            rcases ho.2 with ⟨h, h0⟩ | ⟨g, cp, cur, h, -⟩
            · omega
            · injection h with h; exact ⟨g, h⟩
          obtain ⟨cur, hcap⟩ : ∃ cur : Array Value, (rn ≤ cap2) := by
            rcases ho.2 with ⟨h, h0⟩ | ⟨g, cp, cur, h, -, -, hc, -⟩
            · omega
            · injection h with _ _ h; exact ⟨cur, by omega⟩
          obtain ⟨hroom, hfz⟩ := own_rooms (o := k * 6) ho (by omega)
          obtain ⟨u0, k0⟩ := hroom 0 (by decide)
          have z0 := hfz (k * 6)
          obtain ⟨u1, k1⟩ := hroom 1 (by decide)
          have z1 := hfz (k * 6 + 1)
          obtain ⟨u2, k2⟩ := hroom 2 (by decide)
          have z2 := hfz (k * 6 + 2)
          obtain ⟨u3, k3⟩ := hroom 3 (by decide)
          have z3 := hfz (k * 6 + 3)
          obtain ⟨u4, k4⟩ := hroom 4 (by decide)
          have z4 := hfz (k * 6 + 4)
          obtain ⟨u5, k5⟩ := hroom 5 (by decide)
          have z5 := hfz (k * 6 + 5)
          rw [Nat.add_zero] at k0
          have hl2 : g < wr.heap.size := World.block_lt_of_cell? _ _ k0
          have hHl : H < wr.heap.size := World.block_lt_of_cell? _ _ d0
          have HS := Lib.hid (fun W (h : Below wr.heap.size wr W) => (⟨h, (h.cell (p := ⟨H, i * 2, none⟩) hHl).trans d0, (h.cell (p := ⟨H, i * 2 + 1, none⟩) hHl).trans d1, (h.cell (p := ⟨g, k * 6, none⟩) hl2).trans k0, (h.frozen (p := ⟨g, k * 6, none⟩) hl2).trans z0, (h.cell (p := ⟨g, k * 6 + 1, none⟩) hl2).trans k1, (h.frozen (p := ⟨g, k * 6 + 1, none⟩) hl2).trans z1, (h.cell (p := ⟨g, k * 6 + 2, none⟩) hl2).trans k2, (h.frozen (p := ⟨g, k * 6 + 2, none⟩) hl2).trans z2, (h.cell (p := ⟨g, k * 6 + 3, none⟩) hl2).trans k3, (h.frozen (p := ⟨g, k * 6 + 3, none⟩) hl2).trans z3, (h.cell (p := ⟨g, k * 6 + 4, none⟩) hl2).trans k4, (h.frozen (p := ⟨g, k * 6 + 4, none⟩) hl2).trans z4, (h.cell (p := ⟨g, k * 6 + 5, none⟩) hl2).trans k5, (h.frozen (p := ⟨g, k * 6 + 5, none⟩) hl2).trans z5⟩ : FiOpS wr H i (.slice (some ⟨g, 0, none⟩) rn cap2) rnum g k u0 u1 u2 u3 u4 u5 W))
          have HM := Lib.hid (fun W (h : Below wr.heap.size wr W) => (hH.out.below h).mark1 (by decide) mOp (g := g) (cap := cap2) (by rfl) hrk HL.out hkl rfl)
          have HF := Lib.hid (fun W (h : Below wr.heap.size wr W) => hW.out.trans (FrB.ofBelow h))
          have p1 : (k : Int) < (rn : Int) := by omega
          have p2 : (0 : Int) ≤ (k : Int) := Int.natCast_nonneg _
          clear hroom hfz ho hH hW hrk fz hl2 hHl
          go_wp2_with fail
          clear d0 d1 k0 z0 k1 z1 k2 z2 k3 z3 k4 z4 k5 z5
          refine wp_region_L (l := 11) (S := (FiOpS wr H i (.slice (some ⟨g, 0, none⟩) rn cap2) rnum g k u0 u1 u2 u3 u4 u5)) (by kernel_rfl) ?_ (fun hHeld => ?_)
          · ((try dsimp only); (exact HS.out _ (Below.refl _ _).drew))
          refine wpAnyL_take (i := 0) (oi := _) (v := ?v6) rfl (by kernel_rfl) (fun _ _ _ h => h) (by assumption) (Or.inl ⟨by kernel_rfl, ?y6⟩) ?r6
          case y6 => (intro w hSw; (try dsimp only at hSw); go_simp; all_goals with_reducible rfl)
          try simp only [List.getElem_toArray, List.getElem_cons_zero, List.getElem_cons_succ, Act.put, List.setIfInBounds_toArray, List.set_cons_zero, List.set_cons_succ]
          refine wpAnyL_take (i := 1) (oi := _) (v := ?v7) rfl (by kernel_rfl) (fun _ _ _ h => h) (by assumption) (Or.inl ⟨by kernel_rfl, ?y7⟩) ?r7
          case y7 => (intro w hSw; (try dsimp only at hSw); go_simp; all_goals with_reducible rfl)
          try simp only [List.getElem_toArray, List.getElem_cons_zero, List.getElem_cons_succ, Act.put, List.setIfInBounds_toArray, List.set_cons_zero, List.set_cons_succ]
          refine wpAnyL_take (i := 2) (oi := _) (v := ?v8) rfl (by kernel_rfl) (fun _ _ _ h => h) (by assumption) (Or.inl ⟨by kernel_rfl, ?y8⟩) ?r8
          case y8 => (intro w hSw; (try dsimp only at hSw); go_simp; all_goals with_reducible rfl)
          try simp only [List.getElem_toArray, List.getElem_cons_zero, List.getElem_cons_succ, Act.put, List.setIfInBounds_toArray, List.set_cons_zero, List.set_cons_succ]
          refine wpAnyL_take (i := 3) (oi := _) (v := ?v9) rfl (by kernel_rfl) (fun _ _ _ h => h) (by assumption) (Or.inl ⟨by kernel_rfl, ?y9⟩) ?r9
          case y9 => (intro w hSw; (try dsimp only at hSw); go_simp; all_goals with_reducible rfl)
          try simp only [List.getElem_toArray, List.getElem_cons_zero, List.getElem_cons_succ, Act.put, List.setIfInBounds_toArray, List.set_cons_zero, List.set_cons_succ]
          refine wpAnyL_take (i := 4) (oi := _) (v := ?v10) rfl (by kernel_rfl) (fun _ _ _ h => h) (by assumption) (Or.inl ⟨by kernel_rfl, ?y10⟩) ?r10
          case y10 => (intro w hSw; (try dsimp only at hSw); go_simp; all_goals with_reducible rfl)
          try simp only [List.getElem_toArray, List.getElem_cons_zero, List.getElem_cons_succ, Act.put, List.setIfInBounds_toArray, List.set_cons_zero, List.set_cons_succ]
          refine wpAnyL_take (i := 5) (oi := _) (v := ?v11) rfl (by kernel_rfl) (fun _ _ _ h => h) (by assumption) (Or.inl ⟨by kernel_rfl, ?y11⟩) ?r11
          case y11 => (intro w hSw; (try dsimp only at hSw); go_simp; all_goals with_reducible rfl)
          try simp only [List.getElem_toArray, List.getElem_cons_zero, List.getElem_cons_succ, Act.put, List.setIfInBounds_toArray, List.set_cons_zero, List.set_cons_succ]
          refine wpAnyL_take (i := 6) (oi := _) (v := ?v12) rfl (by kernel_rfl) (fun _ _ _ h => h) (by assumption) (Or.inl ⟨by kernel_rfl, ?y12⟩) ?r12
          case y12 => (intro w hSw; (try dsimp only at hSw); go_simp; all_goals with_reducible rfl)
          try simp only [List.getElem_toArray, List.getElem_cons_zero, List.getElem_cons_succ, Act.put, List.setIfInBounds_toArray, List.set_cons_zero, List.set_cons_succ]
          refine wpAnyL_take (i := 7) (oi := _) (v := ?v13) rfl (by kernel_rfl) (fun _ _ _ h => h) (by assumption) (Or.inl ⟨by kernel_rfl, ?y13⟩) ?r13
          case y13 => (intro w hSw; (try dsimp only at hSw); go_simp; all_goals with_reducible rfl)
          try simp only [List.getElem_toArray, List.getElem_cons_zero, List.getElem_cons_succ, Act.put, List.setIfInBounds_toArray, List.set_cons_zero, List.set_cons_succ]
          refine wpAnyL_take (i := 8) (oi := _) (v := ?v14) rfl (by kernel_rfl) (fun _ _ _ h => h) (by assumption) (Or.inl ⟨by kernel_rfl, ?y14⟩) ?r14
          case y14 => (intro w hSw; (try dsimp only at hSw); go_simp; all_goals with_reducible rfl)
          try simp only [List.getElem_toArray, List.getElem_cons_zero, List.getElem_cons_succ, Act.put, List.setIfInBounds_toArray, List.set_cons_zero, List.set_cons_succ]
          refine wpAnyL_step (j := 9) (o := _) (by kernel_rfl) rfl (fun K hK => ?_)
          (go_simp; go_at_call 123; refine (markOp_any rnum b2 (by omega) _).mono ?_; rintro e w4 ⟨rfl, hb4⟩)
          refine hK _ _ ?_ (fun hHeld => ?_)
          · ((try dsimp only); (exact HS.out _ (hHeld.1.trans (hb4.mono hHeld.1.size))))
          clear hK K
          try simp only [List.getElem_toArray, List.getElem_cons_zero, List.getElem_cons_succ, Act.put, List.setIfInBounds_toArray, List.set_cons_zero, List.set_cons_succ]
          refine wpAnyL_take (i := 10) (oi := _) (v := ?v16) rfl (by kernel_rfl) (fun _ _ _ h => h) (by assumption) (Or.inl ⟨by kernel_rfl, ?y16⟩) ?r16
          case y16 => (intro w hSw; (try dsimp only at hSw); go_simp; all_goals with_reducible rfl)
          try simp only [List.getElem_toArray, List.getElem_cons_zero, List.getElem_cons_succ, Act.put, List.setIfInBounds_toArray, List.set_cons_zero, List.set_cons_succ]
          refine wpAnyL_last (j := 11) (o := _) (by kernel_rfl) rfl (by rfl) (by kernel_rfl) (fun K hK => ?_)
          go_simp
          (refine hK _ _ ?_; clear hK K)
          try simp only [List.getElem_toArray, List.getElem_cons_zero, List.getElem_cons_succ, Act.put, List.setIfInBounds_toArray, List.set_cons_zero, List.set_cons_succ]
          have hM2 := Lib.hid (HM.out _ hHeld.1)
          have hF2 := Lib.hid ((HF.out _ hHeld.1).trans hM2.out.2)
          have hM3 := Lib.hid hM2.out.1
          simp only [putAll, mOp, Nat.mul_one, Nat.add_assoc, Nat.reduceAdd, List.set_set] at hM3 hF2
          clear hM2 HM HF HS hHeld
          go_wp2_with fail
          go_roundw
          case rel => exact ⟨k + 1, by go_num, by omega, hM3, hF2⟩
          case measure => simp [intOf]; omega
        · obtain rfl : k = rn := by omega
          have hH2 : Hid (Held 79 124 6 B wr (.slice (some ⟨H, 0, none⟩) rows.length cap) (half (filled mOp) rows (i + 1))) := Lib.hid (by
            rw [← hnx.out, ← fillK_all mOp HL.out]; exact hH.out)
          clear hH
          go_wp2_with fail
          go_roundw
          case rel => exact ⟨i + 1, by go_num, by omega, hH2, hW⟩
          case measure => simp [intOf]; omega
    · obtain rfl : i = rows.length := by omega
      have hH2 : Hid (Held 79 124 6 B wr (.slice A rows.length cap) (rows.map (filled mOp))) := Lib.hid (by rw [← half_all]; exact hH.out)
      clear hH
      go_wp2_with fail
      go_end0
      exact ⟨rfl, hH2.out, hW.out⟩

abbrev GrOpS (B : Nat) (w0 : World) (H i : Nat) (rv : Value) (rnum : Int) (W : World) : Prop :=
  FrB B (fun t => t == 79) w0 W ∧ W.cell? ⟨H, i * 2, none⟩ = some rv ∧ W.cell? ⟨H, i * 2 + 1, none⟩ = some (.int .i64 rnum)
theorem elInfoOp : (Tryz.prog.info? 79).map (fun i => (i.zero, i.size, i.bytes)) = some (some (.agg #[.int .u8 0, .int .u8 0, .int .u8 0, .int .u8 0, .int .u8 0, .int .i64 0]), 6, 16) := by kernel_rfl
theorem elOneOp (n : Int) : ∀ u ∈ mOp n, u.oneCell' = true := by intro u hu; simp [mOp] at hu; rcases hu with rfl | rfl | rfl | rfl | rfl | rfl <;> rfl
set_option maxHeartbeats 4000000 in
set_option maxRecDepth 100000 in
theorem growOp_any (K B N : Nat) (kc : Array Value) (v : Value) (rows : List HRow) (w : World) (hB : B ≤ w.heap.size) (hK : w.heap[K]? = some (.cells kc 55 (0, 0))) (hk : kc[7]? = some v) (hH : Held 79 124 6 B w v rows) (hn : rows.length ≤ 1000)
    (hN : N ≤ 1000000000) (hA : AllM mOp N rows) :
    Calls Tryz.prog 54 #[.pointer (some ⟨K, 0, none⟩)] w fun e w' => e = .returned (.tuple #[]) ∧ (∃ rows', rows'.length = rows.length ∧ Held 79 124 6 B w' v rows' ∧ AllM mOp (N + 3 * rows.length) rows') ∧ FrB B (fun t => t == 79 || t == 124) w w' := by
  have HK := Lib.hid (fun W (h : FrB B (fun t => t == 79 || t == 124) w W) => (cell_of_row W K 7 kc 55 (0, 0) (h.obj hK (by decide))).trans hk)
  obtain ⟨A, cap, rfl⟩ := hH.len
  have HS0 := Lib.hid hH
  have HA0 : Hid (AllM mOp (N + 3 * 0) rows) := Lib.hid hA
  have c0 := HK.out w (FrB.refl w)
  obtain ⟨i0, hi0, hz0, hz1, hz2⟩ := info_parts elInfoOp
  obtain ⟨R, hR⟩ : ∃ R, rows.length = R := ⟨_, rfl⟩
  rw [hR] at HS0 HK c0 hn ⊢
  have HR0 := Lib.hid hR
  clear hK hk hH hA hR
  go_enter Tryz.func54, Tryz.ntmps54
  go_wp2_with fail
  clear c0
  go_loopw [10] (fun i wr => ∃ (i' : Nat) (rs : List HRow), i = .int .i64 i' ∧ i' ≤ R ∧ Hid (rs.length = R) ∧ Hid (Held 79 124 6 B wr (.slice A R cap) rs) ∧ Hid (AllM mOp (N + 3 * i') rs) ∧ Hid (FrB B (fun t => t == 79 || t == 124) w wr)) (fun i _ => R - (intOf i).toNat)
  case atStart => exact ⟨0, rows, rfl, Nat.zero_le _, HR0, HS0, HA0, Lib.hid (FrB.refl _)⟩
  case round =>
    clear HS0 HR0 HA0
    obtain ⟨i, rs, rfl, hi, hR, hH, hA, hW⟩ := hrel
    have c0 := HK.out _ hW.out
    by_cases hlt : i < R
    · obtain ⟨H, cap', hsl⟩ := hH.out.slice (by have := hR.out; omega)
      injection hsl with hsl1 hsl0 hsl2
      subst hsl1; subst hsl2
      clear hsl0
      have hA0 : Hid (AllM mOp (N + 3 * i + 0) rs) := Lib.hid hA.out
      have q1 : (i : Int) < (R : Int) := by omega
      have q2 : (0 : Int) ≤ (i : Int) := Int.natCast_nonneg _
      clear hA
      go_wp2_with fail
      clear c0
      obtain ⟨wo, rfl⟩ : ∃ wo : World, wo = wr := ⟨_, rfl⟩
      go_loopw [4] (fun i2 wr => ∃ (k : Nat) (rs : List HRow), i2 = .int .i64 k ∧ k ≤ 3 ∧ Hid (rs.length = R) ∧ Hid (Held 79 124 6 B wr (.slice (some ⟨H, 0, none⟩) R cap) rs) ∧ Hid (AllM mOp (N + 3 * i + k) rs) ∧ Hid (FrB B (fun t => t == 79 || t == 124) w wr)) (fun i2 _ => 3 - (intOf i2).toNat)
      case atStart => exact ⟨0, rs, rfl, by omega, hR, hH, hA0, hW⟩
      case round =>
        clear hA0 hW hH hR
        obtain ⟨k, rs, rfl, hk, hR, hH, hA, hW⟩ := hrel
        by_cases hkl : k < 3
        · have hir : i < rs.length := by have := hR.out; omega
          have hri := List.getElem?_eq_getElem hir
          obtain ⟨d0, d1, -⟩ := hH.out.cells hri
          obtain ⟨a1, a2, a3, a4⟩ := hA.out i _ hri
          have HO := Lib.hid (hH.out.own i _ hri)
          have HRI := Lib.hid hri
          have t1 : decide ((k : Int) < 3) = true := by simp; omega
          have hHl : H < wr.heap.size := World.block_lt_of_cell? _ _ d0
          have HC := Lib.hid (fun W (h : FrB B (fun t => t == 79) wr W) => (h.own hH.out.row (by decide) : W.ownsRow B 124 2 (.slice (some ⟨H, 0, none⟩) R cap) rs.length (rs.flatMap HRow.cells)))
          clear hri
          generalize rs[i] = r at *
          obtain ⟨rv, rn, rxs, rnum⟩ := r
          dsimp only at d0 d1 a1 a2 a3 a4
          subst a1
          have HS : Hid (∀ W, FrB B (fun t => t == 79) wr W → GrOpS B wr H i rv rnum W) := Lib.hid (fun W h => by
            obtain ⟨f1, f2⟩ := flat_cells_at rs i _ HRI.out
            have hr2 : W.ownsRow B 124 2 (.slice (some ⟨H, 0, none⟩) rs.length cap) rs.length (rs.flatMap HRow.cells) := by
              have := HC.out W h; rw [← hR.out] at this; exact this
            exact ⟨h, (hr2.cellAt (i * 2) (by omega)).trans f1, (hr2.cellAt (i * 2 + 1) (by omega)).trans f2⟩)
          have hbs : B ≤ wr.heap.size := Nat.le_trans hB hW.out.size
          have HM : Hid (∀ (w4 w5 : World) (v' : Value), Below wr.heap.size wr w4 → w4.grownBy w5 rv.ownBlock → w5.ownsRow B 79 6 v' (rn + 1) (marksOf mOp rnum rn ++ mOp rnum) → (v'.ownBlock = rv.ownBlock ∨ v'.ownBlock = some w4.heap.size) →
              (Held 79 124 6 B (w5.setCell ⟨H, i * 2, none⟩ v') (.slice (some ⟨H, 0, none⟩) R cap) (rs.set i ⟨v', rn + 1, marksOf mOp rnum (rn + 1), rnum⟩) ∧ AllM mOp (N + 3 * i + (k + 1)) (rs.set i ⟨v', rn + 1, marksOf mOp rnum (rn + 1), rnum⟩)) ∧
              FrB B (fun t => t == 79 || t == 124) w (w5.setCell ⟨H, i * 2, none⟩ v') ∧ w5.cell? ⟨H, i * 2, none⟩ = some rv ∧ w5.frozen? ⟨H, i * 2, none⟩ = false ∧ FrB B (fun t => t == 79) w4 w5) := Lib.hid (fun w4 w5 v' hb hg ho hat => by
            have h4 := hH.out.below hb
            rw [← marksOf_snoc] at ho
            have hR' := hR.out
            rw [← hR'] at h4
            obtain ⟨g1, g2⟩ := h4.grew (by decide) HRI.out hg ho hat
            rw [hR'] at g1
            have o4 : w4.ownsRow B 79 6 rv rn (marksOf mOp rnum rn) := own_belowI HO.out hb
            have f1 := (flat_cells_at rs i _ HRI.out).1
            refine ⟨⟨g1, hA.out.set (by omega) ⟨rfl, by dsimp only; omega, a3, a4⟩⟩, ?_, (g2.cellAt (i * 2) (by omega)).trans f1, g2.frozenAt _, FrB.grown o4 (by simp) hg⟩
            exact (hW.out.trans (FrB.ofBelow hb)).trans ((FrB.grown o4 (by simp) hg).trans (FrB.set g2 (by simp))))
          have hRN : rn ≤ 2000000000 := by omega
          clear hA hH hW HC
          go_wp2_with fail
          clear d0 d1
          refine wp_region_L (l := 14) (S := (GrOpS B wr H i rv rnum)) (by kernel_rfl) ?_ (fun hHeld => ?_)
          · ((try dsimp only); (exact HS.out _ (FrB.ofBelow (Below.refl _ _).drew)))
          refine wpAnyL_take (i := 0) (oi := _) (v := ?v18) rfl (by kernel_rfl) (fun _ _ _ h => h) (by assumption) (Or.inl ⟨by kernel_rfl, ?y18⟩) ?r18
          case y18 => (intro w hSw; (try dsimp only at hSw); go_simp; all_goals with_reducible rfl)
          try simp only [List.getElem_toArray, List.getElem_cons_zero, List.getElem_cons_succ, Act.put, List.setIfInBounds_toArray, List.set_cons_zero, List.set_cons_succ]
          refine wpAnyL_take (i := 1) (oi := _) (v := ?v19) rfl (by kernel_rfl) (fun _ _ _ h => h) (by assumption) (Or.inl ⟨by kernel_rfl, ?y19⟩) ?r19
          case y19 => (intro w hSw; (try dsimp only at hSw); go_simp; all_goals with_reducible rfl)
          try simp only [List.getElem_toArray, List.getElem_cons_zero, List.getElem_cons_succ, Act.put, List.setIfInBounds_toArray, List.set_cons_zero, List.set_cons_succ]
          refine wpAnyL_take (i := 2) (oi := _) (v := ?v20) rfl (by kernel_rfl) (fun _ _ _ h => h) (by assumption) (Or.inl ⟨by kernel_rfl, ?y20⟩) ?r20
          case y20 => (intro w hSw; (try dsimp only at hSw); go_simp; all_goals with_reducible rfl)
          try simp only [List.getElem_toArray, List.getElem_cons_zero, List.getElem_cons_succ, Act.put, List.setIfInBounds_toArray, List.set_cons_zero, List.set_cons_succ]
          refine wpAnyL_take (i := 3) (oi := _) (v := ?v21) rfl (by kernel_rfl) (fun _ _ _ h => h) (by assumption) (Or.inl ⟨by kernel_rfl, ?y21⟩) ?r21
          case y21 => (intro w hSw; (try dsimp only at hSw); go_simp; all_goals with_reducible rfl)
          try simp only [List.getElem_toArray, List.getElem_cons_zero, List.getElem_cons_succ, Act.put, List.setIfInBounds_toArray, List.set_cons_zero, List.set_cons_succ]
          refine wpAnyL_take (i := 4) (oi := _) (v := ?v22) rfl (by kernel_rfl) (fun _ _ _ h => h) (by assumption) (Or.inl ⟨by kernel_rfl, ?y22⟩) ?r22
          case y22 => (intro w hSw; (try dsimp only at hSw); go_simp; all_goals with_reducible rfl)
          try simp only [List.getElem_toArray, List.getElem_cons_zero, List.getElem_cons_succ, Act.put, List.setIfInBounds_toArray, List.set_cons_zero, List.set_cons_succ]
          refine wpAnyL_take (i := 5) (oi := _) (v := ?v23) rfl (by kernel_rfl) (fun _ _ _ h => h) (by assumption) (Or.inl ⟨by kernel_rfl, ?y23⟩) ?r23
          case y23 => (intro w hSw; (try dsimp only at hSw); go_simp; all_goals with_reducible rfl)
          try simp only [List.getElem_toArray, List.getElem_cons_zero, List.getElem_cons_succ, Act.put, List.setIfInBounds_toArray, List.set_cons_zero, List.set_cons_succ]
          refine wpAnyL_take (i := 6) (oi := _) (v := ?v24) rfl (by kernel_rfl) (fun _ _ _ h => h) (by assumption) (Or.inl ⟨by kernel_rfl, ?y24⟩) ?r24
          case y24 => (intro w hSw; (try dsimp only at hSw); go_simp; all_goals with_reducible rfl)
          try simp only [List.getElem_toArray, List.getElem_cons_zero, List.getElem_cons_succ, Act.put, List.setIfInBounds_toArray, List.set_cons_zero, List.set_cons_succ]
          refine wpAnyL_take (i := 7) (oi := _) (v := ?v25) rfl (by kernel_rfl) (fun _ _ _ h => h) (by assumption) (Or.inl ⟨by kernel_rfl, ?y25⟩) ?r25
          case y25 => (intro w hSw; (try dsimp only at hSw); go_simp; all_goals with_reducible rfl)
          try simp only [List.getElem_toArray, List.getElem_cons_zero, List.getElem_cons_succ, Act.put, List.setIfInBounds_toArray, List.set_cons_zero, List.set_cons_succ]
          refine wpAnyL_take (i := 8) (oi := _) (v := ?v26) rfl (by kernel_rfl) (fun _ _ _ h => h) (by assumption) (Or.inl ⟨by kernel_rfl, ?y26⟩) ?r26
          case y26 => (intro w hSw; (try dsimp only at hSw); go_simp; all_goals with_reducible rfl)
          try simp only [List.getElem_toArray, List.getElem_cons_zero, List.getElem_cons_succ, Act.put, List.setIfInBounds_toArray, List.set_cons_zero, List.set_cons_succ]
          refine wpAnyL_step (j := 9) (o := _) (by kernel_rfl) rfl (fun K hK => ?_)
          (go_simp; go_at_call 123; refine (markOp_any rnum a3 (by omega) _).mono ?_; rintro e w3 ⟨rfl, hb3⟩; have hB3 := Lib.hid (((Below.refl wr.heap.size wr).drew).trans hb3))
          refine hK _ _ ?_ (fun hHeld => ?_)
          · ((try dsimp only); (exact HS.out _ (FrB.ofBelow hB3.out)))
          clear hK K
          try simp only [List.getElem_toArray, List.getElem_cons_zero, List.getElem_cons_succ, Act.put, List.setIfInBounds_toArray, List.set_cons_zero, List.set_cons_succ]
          refine wpAnyL_step (j := 10) (o := _) (by kernel_rfl) rfl (fun K hK => ?_)
          (go_simp; have hB4 := Lib.hid (fun o => hB3.out.alloc hB3.out.size o))
          refine hK _ _ ?_ (fun hHeld => ?_)
          · ((try dsimp only); (exact HS.out _ (FrB.ofBelow (hB4.out _))))
          clear hK K
          try simp only [List.getElem_toArray, List.getElem_cons_zero, List.getElem_cons_succ, Act.put, List.setIfInBounds_toArray, List.set_cons_zero, List.set_cons_succ]
          refine wpAnyL_step (j := 11) (o := _) (by kernel_rfl) rfl (fun K hK => ?_)
          (refine wp_append_own_at _ _ 22 rfl B 79 i0 _ 6 16 Tryz.underlying22 hi0 hz0 hz1 hz2 rfl (by decide) rv rn (marksOf mOp rnum rn) rfl (own_belowI HO.out (hB4.out _)) ⟨w3.heap.size, 0, none⟩ 1 1 (mOp rnum) rfl rfl (World.news_of_block (heap_alloc_new w3 _)) (elOneOp _) (by unfold maxLen; omega) (by omega) (Nat.le_trans hbs (hB4.out _).size) ?_; intro v' w5 hown' hgrow hat; obtain ⟨gg, cp, rfl⟩ : ∃ gg cp, v' = .slice (some ⟨gg, 0, none⟩) (rn + 1) cp := (hown'.2.elim (fun h => absurd h.2 (by omega)) (fun ⟨gg, cp, cur, h, _⟩ => ⟨gg, cp, h⟩)); have hG := Lib.hid (HM.out _ _ _ (hB4.out _) hgrow hown' hat); have c5 := hG.out.2.2.1; have f5 := hG.out.2.2.2.1; clear hown' hgrow hat)
          refine hK _ _ ?_ (fun hHeld => ?_)
          · ((try dsimp only); (exact HS.out _ ((FrB.ofBelow (hB4.out _)).trans hG.out.2.2.2.2)))
          clear hK K
          try simp only [List.getElem_toArray, List.getElem_cons_zero, List.getElem_cons_succ, Act.put, List.setIfInBounds_toArray, List.set_cons_zero, List.set_cons_succ]
          refine wpAnyL_take (i := 12) (oi := _) (v := ?v30) rfl (by kernel_rfl) (fun _ _ _ h => h) (by assumption) (Or.inl ⟨by kernel_rfl, ?y30⟩) ?r30
          case y30 => (intro w hSw; (try dsimp only at hSw); go_simp; all_goals with_reducible rfl)
          try simp only [List.getElem_toArray, List.getElem_cons_zero, List.getElem_cons_succ, Act.put, List.setIfInBounds_toArray, List.set_cons_zero, List.set_cons_succ]
          refine wpAnyL_take (i := 13) (oi := _) (v := ?v31) rfl (by kernel_rfl) (fun _ _ _ h => h) (by assumption) (Or.inl ⟨by kernel_rfl, ?y31⟩) ?r31
          case y31 => (intro w hSw; (try dsimp only at hSw); go_simp; all_goals with_reducible rfl)
          try simp only [List.getElem_toArray, List.getElem_cons_zero, List.getElem_cons_succ, Act.put, List.setIfInBounds_toArray, List.set_cons_zero, List.set_cons_succ]
          refine wpAnyL_last (j := 14) (o := _) (by kernel_rfl) rfl (by rfl) (by kernel_rfl) (fun K hK => ?_)
          go_simp
          (refine hK _ _ ?_; clear hK K)
          try simp only [List.getElem_toArray, List.getElem_cons_zero, List.getElem_cons_succ, Act.put, List.setIfInBounds_toArray, List.set_cons_zero, List.set_cons_succ]
          have hH2 := Lib.hid hG.out.1.1
          have hA2 := Lib.hid hG.out.1.2
          have hF2 := Lib.hid hG.out.2.1
          have hR2 : Hid ((rs.set i ⟨.slice (some ⟨gg, 0, none⟩) (rn + 1) cp, rn + 1, marksOf mOp rnum (rn + 1), rnum⟩).length = R) := Lib.hid (by rw [List.length_set]; exact hR.out)
          clear hG HM HS hHeld c5 f5 hB3 hB4
          go_wp2_with fail
          go_roundw
          case rel => exact ⟨k + 1, _, by go_num, by omega, hR2, hH2, hA2, hF2⟩
          case measure => simp [intOf]; omega
        · obtain rfl : k = 3 := by omega
          have hA2 : Hid (AllM mOp (N + 3 * (i + 1)) rs) := Lib.hid (hA.out.mono (by omega))
          clear hA
          go_wp2_with fail
          go_roundw
          case rel => exact ⟨i + 1, rs, by go_num, by omega, hR, hH, hA2, hW⟩
          case measure => simp [intOf]; omega
    · obtain rfl : i = R := by omega
      go_wp2_with fail
      go_end0
      exact ⟨rfl, ⟨rs, hR.out, hH.out, hA.out⟩, hW.out⟩

set_option maxHeartbeats 4000000 in
set_option maxRecDepth 100000 in
theorem lookOp_any (K B N : Nat) (kc : Array Value) (v : Value) (rows : List HRow) (w : World) (hK : w.heap[K]? = some (.cells kc 55 (0, 0))) (hk : kc[7]? = some v) (hH : Held 79 124 6 B w v rows) (hn : rows.length ≤ 1000)
    (hN : N ≤ 2000000000) (hA : AllM mOp N rows) :
    Calls Tryz.prog 81 #[.pointer (some ⟨K, 0, none⟩)] w fun e w' => e = .returned (.bool true) ∧ Below w.heap.size w w' := by
  have c0 := (cell_of_row w K 7 kc 55 (0, 0) hK).trans hk
  have HH := Lib.hid (fun W (h : Below w.heap.size w W) => hH.below h)
  obtain ⟨A, cap, rfl⟩ := hH.len
  have HA := Lib.hid hA
  clear hK hk hH hA
  go_enter Tryz.func81, Tryz.ntmps81
  go_wp2_with fail
  clear c0
  go_loopw [12] (fun i wr => ∃ i' : Nat, i = .int .i64 i' ∧ i' ≤ rows.length ∧ Hid (Below w.heap.size w wr)) (fun i _ => rows.length - (intOf i).toNat)
  case atStart => exact ⟨0, rfl, Nat.zero_le _, Lib.hid (Below.refl _ _)⟩
  case round =>
    obtain ⟨i, rfl, hi, hW⟩ := hrel
    by_cases hlt : i < rows.length
    · obtain ⟨H, cap', hsl⟩ := (HH.out _ hW.out).slice (by omega)
      injection hsl with hsl1 hsl0 hsl2
      subst hsl1; subst hsl2
      clear hsl0
      have hri := List.getElem?_eq_getElem hlt
      obtain ⟨d0, d1, -⟩ := (HH.out _ hW.out).cells hri
      obtain ⟨a1, a2, a3, a4⟩ := HA.out i _ hri
      have HO := Lib.hid (fun W (h : Below w.heap.size w W) => (HH.out W h).own i _ hri)
      have q1 : (i : Int) < (rows.length : Int) := by omega
      have q2 : (0 : Int) ≤ (i : Int) := Int.natCast_nonneg _
      clear hri
      generalize rows[i] = r at *
      obtain ⟨rv, rn, rxs, rnum⟩ := r
      dsimp only at *
      subst a1
      obtain ⟨A2, cap2, rfl⟩ : ∃ A2 cap2, rv = .slice A2 rn cap2 := by
        rcases (HO.out _ hW.out).2 with ⟨rfl, h0⟩ | ⟨g, cp, cur, rfl, -⟩
        · exact ⟨none, 0, by rw [h0]⟩
        · exact ⟨_, cp, rfl⟩
      obtain ⟨X, hX⟩ : ∃ X, wr.heap.size = X := ⟨_, rfl⟩
      obtain ⟨w0, hw0⟩ : ∃ w0, wr.alloc (.cells #[.slice A2 rn cap2, .int .i64 rnum] 124 (0, 0)) = w0 := ⟨_, rfl⟩
      have HB0 : Hid (Below w.heap.size w w0) := Lib.hid (by rw [← hw0]; exact hW.out.alloc hW.out.size _)
      have x0 : w0.cell? ⟨X, 0, none⟩ = some (.slice A2 rn cap2) := by rw [← hw0, ← hX]; simp
      have x1 : w0.cell? ⟨X, 1, none⟩ = some (.int .i64 rnum) := by rw [← hw0, ← hX]; simp
      have hXl : X < w0.heap.size := by rw [← hw0, ← hX]; simp
      have HX := Lib.hid (fun W (h : Below w0.heap.size w0 W) => (h.cell (p := ⟨X, 1, none⟩) hXl).trans x1)
      clear hXl
      go_wp2_with fail
      clear hw0 hX d0 d1 x0 x1
      obtain ⟨wo, rfl⟩ : ∃ wo : World, wo = wr := ⟨_, rfl⟩
      go_loopw [19] (fun i2 wr => ∃ k : Nat, i2 = .int .i64 k ∧ k ≤ rn ∧ Hid (Below w0.heap.size w0 wr)) (fun i2 _ => rn - (intOf i2).toNat)
      case atStart => exact ⟨0, rfl, Nat.zero_le _, Lib.hid (Below.refl _ _)⟩
      case round =>
        obtain ⟨k, rfl, hk, hW2⟩ := hrel
        have hW3 := Lib.hid (HB0.out.trans (hW2.out.mono HB0.out.size))
        by_cases hkl : k < rn
        · have ho := HO.out _ hW3.out
          obtain ⟨g, rfl⟩ : ∃ g, A2 = some ⟨g, 0, none⟩ := by
            rcases ho.2 with ⟨h, h0⟩ | ⟨g, cp, cur, h, -⟩
            · omega
            · injection h with h; exact ⟨g, h⟩
          have HG := Lib.hid (fun j (hj : j < 6) => (ho.cellAt (k * 6 + j) (by have := Nat.mul_le_mul_right 6 hkl; rw [Nat.succ_mul] at this; omega)).trans (marksOf_get mOp rnum (k := 6) (by rfl) rn k j hkl hj))
          have g0 : wr.cell? ⟨g, k * 6, none⟩ = some (.int .u8 99) := by have := HG.out 0 (by decide); rwa [Nat.add_zero, show (mOp rnum)[0]? = some (.int .u8 99) from rfl] at this
          have g1 : wr.cell? ⟨g, k * 6 + 1, none⟩ = some (.int .u8 0) := by have := HG.out 1 (by decide); rwa [show (mOp rnum)[1]? = some (.int .u8 0) from rfl] at this
          have g2 : wr.cell? ⟨g, k * 6 + 2, none⟩ = some (.int .u8 0) := by have := HG.out 2 (by decide); rwa [show (mOp rnum)[2]? = some (.int .u8 0) from rfl] at this
          have g3 : wr.cell? ⟨g, k * 6 + 3, none⟩ = some (.int .u8 0) := by have := HG.out 3 (by decide); rwa [show (mOp rnum)[3]? = some (.int .u8 0) from rfl] at this
          have g4 : wr.cell? ⟨g, k * 6 + 4, none⟩ = some (.int .u8 0) := by have := HG.out 4 (by decide); rwa [show (mOp rnum)[4]? = some (.int .u8 0) from rfl] at this
          have g5 : wr.cell? ⟨g, k * 6 + 5, none⟩ = some (.int .i64 (-1000 - rnum)) := by have := HG.out 5 (by decide); rwa [show (mOp rnum)[5]? = some (.int .i64 (-1000 - rnum)) from rfl] at this
          have p1 : (k : Int) < (rn : Int) := by omega
          have p2 : (0 : Int) ≤ (k : Int) := Int.natCast_nonneg _
          obtain ⟨Y, hY⟩ : ∃ Y, wr.heap.size = Y := ⟨_, rfl⟩
          obtain ⟨w1, hw1⟩ : ∃ w1, wr.alloc (.cells #[.int .u8 99, .int .u8 0, .int .u8 0, .int .u8 0, .int .u8 0, .int .i64 (-1000 - rnum)] 79 (0, 0)) = w1 := ⟨_, rfl⟩
          have HE1 : Hid (Below w0.heap.size w0 w1) := Lib.hid (by rw [← hw1]; exact hW2.out.alloc hW2.out.size _)
          have y1 := HX.out _ HE1.out
          have v0 : w1.cell? ⟨Y, 0, none⟩ = some (.int .u8 99) := by rw [← hw1, ← hY]; simp
          have v1 : w1.cell? ⟨Y, 1, none⟩ = some (.int .u8 0) := by rw [← hw1, ← hY]; simp
          have v2 : w1.cell? ⟨Y, 2, none⟩ = some (.int .u8 0) := by rw [← hw1, ← hY]; simp
          have v3 : w1.cell? ⟨Y, 3, none⟩ = some (.int .u8 0) := by rw [← hw1, ← hY]; simp
          have v4 : w1.cell? ⟨Y, 4, none⟩ = some (.int .u8 0) := by rw [← hw1, ← hY]; simp
          have v5 : w1.cell? ⟨Y, 5, none⟩ = some (.int .i64 (-1000 - rnum)) := by rw [← hw1, ← hY]; simp
          clear ho HG hW3
          go_wp2_with fail
          refine (isOp_any rnum a3 (by omega) _).mono ?_
          rintro e w5 ⟨rfl, hb5⟩
          have hE := Lib.hid (HE1.out.trans (hb5.mono HE1.out.size))
          clear hb5 HE1 g0 g1 g2 g3 g4 g5 hw1 hY v0 v1 v2 v3 v4 v5 y1
          go_wp2_with fail
          go_roundw
          case rel => exact ⟨k + 1, by go_num, by omega, hE⟩
          case measure => simp [intOf]; omega
        · go_wp2_with fail
          go_roundw
          case rel => exact ⟨i + 1, by go_num, by omega, hW3⟩
          case measure => simp [intOf]; omega
    · go_wp2_with fail
      go_ret
      exact ⟨rfl, hW.out⟩

abbrev KeOpS (B : Nat) (w0 : World) (K : Nat) (v : Value) (cnt : Int) (W : World) : Prop :=
  FrB B (fun t => t == 124) w0 W ∧ W.cell? ⟨K, 7, none⟩ = some v ∧ W.cell? ⟨K, 0, none⟩ = some (.int .i64 cnt)
theorem heldInfoOp : (Tryz.prog.info? 124).map (fun i => (i.zero, i.size, i.bytes)) = some (some (.agg #[.slice none 0 0, .int .i64 0]), 2, 32) := by kernel_rfl
set_option maxHeartbeats 4000000 in
set_option maxRecDepth 100000 in
theorem keepOp_any (K B : Nat) (kc : Array Value) (v : Value) (cnt : Int) (rows : List HRow) (A : Option Addr) (n cap : Nat) (xs : List Value) (w : World) (hB : B ≤ K) (hK : w.heap[K]? = some (.cells kc 55 (0, 0))) (hk : kc[7]? = some v) (hk0 : kc[0]? = some (.int .i64 cnt)) (hc0 : 0 ≤ cnt) (hc1 : cnt ≤ 1000)
    (hH : Held 79 124 6 B w v rows) (hn : rows.length ≤ 1000) (hr : w.ownsRow B 79 6 (.slice A n cap) n xs) (ha : ∀ (i : Nat) (a : HRow), rows[i]? = some a → ∀ g, a.v.ownBlock = some g → (Value.slice A n cap).ownBlock ≠ some g) :
    Calls Tryz.prog 22 #[.pointer (some ⟨K, 0, none⟩), .slice A n cap] w fun e w' => e = .returned (.tuple #[]) ∧
      (∃ v', w'.heap[K]? = some (.cells ((kc.setIfInBounds 7 v').setIfInBounds 0 (.int .i64 (cnt + 1))) 55 (0, 0)) ∧ Held 79 124 6 B w' v' (rows ++ [⟨.slice A n cap, n, xs, cnt⟩])) ∧ FrB B (fun t => t == 124 || t == 55) w w' := by
  have hKl : K < w.heap.size := (Array.getElem?_eq_some_iff.1 hK).1
  have HS : Hid (∀ W, FrB B (fun t => t == 124) w W → KeOpS B w K v cnt W) := Lib.hid (fun W h => by
    have hK2 := h.obj hK (by decide)
    exact ⟨h, (cell_of_row W K 7 kc 55 (0, 0) hK2).trans hk, (cell_of_row W K 0 kc 55 (0, 0) hK2).trans hk0⟩)
  obtain ⟨i0, hi0, hz0, hz1, hz2⟩ := info_parts heldInfoOp
  have HR := Lib.hid (fun w4 (hb : Below w.heap.size w w4) => (hH.below hb).row)
  have HM : Hid (∀ (w4 w5 : World) (v' : Value), Below w.heap.size w w4 → w4.grownBy w5 v.ownBlock → w5.ownsRow B 124 2 v' (rows.length + 1) (rows.flatMap HRow.cells ++ [.slice A n cap, .int .i64 cnt]) →
      FrB B (fun t => t == 124) w w5 ∧ w5.frozen? ⟨K, 7, none⟩ = false ∧ w5.frozen? ⟨K, 0, none⟩ = false ∧
      (∃ u, w5.cell? ⟨K, 7, none⟩ = some u) ∧ (w5.setCell ⟨K, 7, none⟩ v').cell? ⟨K, 0, none⟩ = some (.int .i64 cnt) ∧
      (((w5.setCell ⟨K, 7, none⟩ v').setCell ⟨K, 0, none⟩ (.int .i64 (cnt + 1))).heap[K]? = some (.cells ((kc.setIfInBounds 7 v').setIfInBounds 0 (.int .i64 (cnt + 1))) 55 (0, 0)) ∧
        Held 79 124 6 B ((w5.setCell ⟨K, 7, none⟩ v').setCell ⟨K, 0, none⟩ (.int .i64 (cnt + 1))) v' (rows ++ [⟨.slice A n cap, n, xs, cnt⟩])) ∧
      FrB B (fun t => t == 124 || t == 55) w ((w5.setCell ⟨K, 7, none⟩ v').setCell ⟨K, 0, none⟩ (.int .i64 (cnt + 1)))) := Lib.hid (fun w4 w5 v' hb hg ho => by
    have h4 := hH.below hb
    have hr4 : w4.ownsRow B 79 6 (.slice A n cap) n xs := own_belowI hr hb
    have f45 : FrB B (fun t => t == 124) w4 w5 := FrB.grown h4.row (by simp) hg
    have f5 : FrB B (fun t => t == 124) w w5 := (FrB.ofBelow hb).trans f45
    have hK5 := f5.obj hK (by decide)
    have hKs := heap_setCell_same w5 K 7 kc 55 v' hK5
    have h5 := h4.kept1 (by decide) (r := ⟨.slice A n cap, n, xs, cnt⟩) hr4 ha hg ho
    have h6 := (h5.setObj (j := 7) hK5 (by decide) (by decide) v').setObj (j := 0) hKs (by decide) (by decide) (.int .i64 (cnt + 1))
    refine ⟨f5, frozen_of_row w5 K _ kc 55 hK5, frozen_of_row w5 K _ kc 55 hK5, ⟨v, (cell_of_row w5 K 7 kc 55 (0, 0) hK5).trans hk⟩, ?_, ⟨heap_setCell_same _ K 0 _ 55 _ hKs, h6⟩, ?_⟩
    · rw [cell_of_row _ K 0 _ 55 (0, 0) hKs, Array.getElem?_setIfInBounds, if_neg (by decide)]; exact hk0
    · exact (f5.weak (fun t ht => by simp at ht; simpa using ht.1)).trans ((FrB.setObj hB hK5 (by simp) v').trans (FrB.setObj hB hKs (by simp) _)))
  have hBs : B ≤ w.heap.size := by omega
  clear hK hk hk0 hH hr ha
  go_enter Tryz.func22, Tryz.ntmps22
  go_wp2_with fail
  refine wp_region_L (l := 15) (S := (KeOpS B w K v cnt)) (by kernel_rfl) ?_ (fun hHeld => ?_)
  · ((try dsimp only); (exact HS.out _ (FrB.ofBelow (Below.refl _ _).drew)))
  refine wpAnyL_take (i := 0) (oi := _) (v := ?v33) rfl (by kernel_rfl) (fun _ _ _ h => h) (by assumption) (Or.inl ⟨by kernel_rfl, ?y33⟩) ?r33
  case y33 => (intro w hSw; (try dsimp only at hSw); go_simp; all_goals with_reducible rfl)
  try simp only [List.getElem_toArray, List.getElem_cons_zero, List.getElem_cons_succ, Act.put, List.setIfInBounds_toArray, List.set_cons_zero, List.set_cons_succ]
  refine wpAnyL_take (i := 1) (oi := _) (v := ?v34) rfl (by kernel_rfl) (fun _ _ _ h => h) (by assumption) (Or.inl ⟨by kernel_rfl, ?y34⟩) ?r34
  case y34 => (intro w hSw; (try dsimp only at hSw); go_simp; all_goals with_reducible rfl)
  try simp only [List.getElem_toArray, List.getElem_cons_zero, List.getElem_cons_succ, Act.put, List.setIfInBounds_toArray, List.set_cons_zero, List.set_cons_succ]
  refine wpAnyL_take (i := 2) (oi := _) (v := ?v35) rfl (by kernel_rfl) (fun _ _ _ h => h) (by assumption) (Or.inl ⟨by kernel_rfl, ?y35⟩) ?r35
  case y35 => (intro w hSw; (try dsimp only at hSw); go_simp; all_goals with_reducible rfl)
  try simp only [List.getElem_toArray, List.getElem_cons_zero, List.getElem_cons_succ, Act.put, List.setIfInBounds_toArray, List.set_cons_zero, List.set_cons_succ]
  refine wpAnyL_take (i := 3) (oi := _) (v := ?v36) rfl (by kernel_rfl) (fun _ _ _ h => h) (by assumption) (Or.inl ⟨by kernel_rfl, ?y36⟩) ?r36
  case y36 => (intro w hSw; (try dsimp only at hSw); go_simp; all_goals with_reducible rfl)
  try simp only [List.getElem_toArray, List.getElem_cons_zero, List.getElem_cons_succ, Act.put, List.setIfInBounds_toArray, List.set_cons_zero, List.set_cons_succ]
  refine wpAnyL_take (i := 4) (oi := _) (v := ?v37) rfl (by kernel_rfl) (fun _ _ _ h => h) (by assumption) (Or.inl ⟨by kernel_rfl, ?y37⟩) ?r37
  case y37 => (intro w hSw; (try dsimp only at hSw); go_simp; all_goals with_reducible rfl)
  try simp only [List.getElem_toArray, List.getElem_cons_zero, List.getElem_cons_succ, Act.put, List.setIfInBounds_toArray, List.set_cons_zero, List.set_cons_succ]
  refine wpAnyL_take (i := 5) (oi := _) (v := ?v38) rfl (by kernel_rfl) (fun _ _ _ h => h) (by assumption) (Or.inl ⟨by kernel_rfl, ?y38⟩) ?r38
  case y38 => (intro w hSw; (try dsimp only at hSw); go_simp; all_goals with_reducible rfl)
  try simp only [List.getElem_toArray, List.getElem_cons_zero, List.getElem_cons_succ, Act.put, List.setIfInBounds_toArray, List.set_cons_zero, List.set_cons_succ]
  refine wpAnyL_take (i := 6) (oi := _) (v := ?v39) rfl (by kernel_rfl) (fun _ _ _ h => h) (by assumption) (Or.inl ⟨by kernel_rfl, ?y39⟩) ?r39
  case y39 => (intro w hSw; (try dsimp only at hSw); go_simp; all_goals with_reducible rfl)
  try simp only [List.getElem_toArray, List.getElem_cons_zero, List.getElem_cons_succ, Act.put, List.setIfInBounds_toArray, List.set_cons_zero, List.set_cons_succ]
  refine wpAnyL_take (i := 7) (oi := _) (v := ?v40) rfl (by kernel_rfl) (fun _ _ _ h => h) (by assumption) (Or.inl ⟨by kernel_rfl, ?y40⟩) ?r40
  case y40 => (intro w hSw; (try dsimp only at hSw); go_simp; all_goals with_reducible rfl)
  try simp only [List.getElem_toArray, List.getElem_cons_zero, List.getElem_cons_succ, Act.put, List.setIfInBounds_toArray, List.set_cons_zero, List.set_cons_succ]
  refine wpAnyL_take (i := 8) (oi := _) (v := ?v41) rfl (by kernel_rfl) (fun _ _ _ h => h) (by assumption) (Or.inl ⟨by kernel_rfl, ?y41⟩) ?r41
  case y41 => (intro w hSw; (try dsimp only at hSw); go_simp; all_goals with_reducible rfl)
  try simp only [List.getElem_toArray, List.getElem_cons_zero, List.getElem_cons_succ, Act.put, List.setIfInBounds_toArray, List.set_cons_zero, List.set_cons_succ]
  refine wpAnyL_take (i := 9) (oi := _) (v := ?v42) rfl (by kernel_rfl) (fun _ _ _ h => h) (by assumption) (Or.inl ⟨by kernel_rfl, ?y42⟩) ?r42
  case y42 => (intro w hSw; (try dsimp only at hSw); go_simp; all_goals with_reducible rfl)
  try simp only [List.getElem_toArray, List.getElem_cons_zero, List.getElem_cons_succ, Act.put, List.setIfInBounds_toArray, List.set_cons_zero, List.set_cons_succ]
  refine wpAnyL_take (i := 10) (oi := _) (v := ?v43) rfl (by kernel_rfl) (fun _ _ _ h => h) (by assumption) (Or.inl ⟨by kernel_rfl, ?y43⟩) ?r43
  case y43 => (intro w hSw; (try dsimp only at hSw); go_simp; all_goals with_reducible rfl)
  try simp only [List.getElem_toArray, List.getElem_cons_zero, List.getElem_cons_succ, Act.put, List.setIfInBounds_toArray, List.set_cons_zero, List.set_cons_succ]
  refine wpAnyL_step (j := 11) (o := _) (by kernel_rfl) rfl (fun K hK => ?_)
  (go_simp; have hB4 := Lib.hid (fun o => ((Below.refl w.heap.size w).drew).alloc (Nat.le_refl _) o))
  refine hK _ _ ?_ (fun hHeld => ?_)
  · ((try dsimp only); (exact HS.out _ (FrB.ofBelow (hB4.out _))))
  clear hK K
  try simp only [List.getElem_toArray, List.getElem_cons_zero, List.getElem_cons_succ, Act.put, List.setIfInBounds_toArray, List.set_cons_zero, List.set_cons_succ]
  refine wpAnyL_step (j := 12) (o := _) (by kernel_rfl) rfl (fun K hK => ?_)
  (refine wp_append_own_at _ _ 33 rfl B 124 i0 _ 2 32 Tryz.underlying33 hi0 hz0 hz1 hz2 rfl (by decide) v rows.length (rows.flatMap HRow.cells) rfl (HR.out _ (hB4.out _)) ⟨w.heap.size, 0, none⟩ 1 1 [.slice A n cap, .int .i64 cnt] rfl rfl (World.news_of_block (heap_alloc_new w.drew _)) (by simp [Value.oneCell']) (by unfold maxLen; omega) (by omega) (Nat.le_trans hBs (hB4.out _).size) ?_; intro v' w5 hown' hgrow hat; obtain ⟨gg, cp, rfl⟩ : ∃ gg cp, v' = .slice (some ⟨gg, 0, none⟩) (rows.length + 1) cp := (hown'.2.elim (fun h => absurd h.2 (by omega)) (fun ⟨gg, cp, cur, h, _⟩ => ⟨gg, cp, h⟩)); have hG := Lib.hid (HM.out _ _ _ (hB4.out _) hgrow hown'); obtain ⟨-, f2, f0, ⟨u2, c2⟩, c0, -, -⟩ := hG.out; clear hown' hgrow hat)
  refine hK _ _ ?_ (fun hHeld => ?_)
  · ((try dsimp only); (exact HS.out _ hG.out.1))
  clear hK K
  try simp only [List.getElem_toArray, List.getElem_cons_zero, List.getElem_cons_succ, Act.put, List.setIfInBounds_toArray, List.set_cons_zero, List.set_cons_succ]
  refine wpAnyL_take (i := 13) (oi := _) (v := ?v46) rfl (by kernel_rfl) (fun _ _ _ h => h) (by assumption) (Or.inl ⟨by kernel_rfl, ?y46⟩) ?r46
  case y46 => (intro w hSw; (try dsimp only at hSw); go_simp; all_goals with_reducible rfl)
  try simp only [List.getElem_toArray, List.getElem_cons_zero, List.getElem_cons_succ, Act.put, List.setIfInBounds_toArray, List.set_cons_zero, List.set_cons_succ]
  refine wpAnyL_take (i := 14) (oi := _) (v := ?v47) rfl (by kernel_rfl) (fun _ _ _ h => h) (by assumption) (Or.inl ⟨by kernel_rfl, ?y47⟩) ?r47
  case y47 => (intro w hSw; (try dsimp only at hSw); go_simp; all_goals with_reducible rfl)
  try simp only [List.getElem_toArray, List.getElem_cons_zero, List.getElem_cons_succ, Act.put, List.setIfInBounds_toArray, List.set_cons_zero, List.set_cons_succ]
  refine wpAnyL_last (j := 15) (o := _) (by kernel_rfl) rfl (by rfl) (by kernel_rfl) (fun K hK => ?_)
  go_simp
  (refine hK _ _ ?_; clear hK K)
  try simp only [List.getElem_toArray, List.getElem_cons_zero, List.getElem_cons_succ, Act.put, List.setIfInBounds_toArray, List.set_cons_zero, List.set_cons_succ]
  have hE := Lib.hid hG.out.2.2.2.2.2
  clear hG HM HS hHeld hB4 HR
  have t1 : IntKind.i64.wrap (cnt + 1) = cnt + 1 := by rw [IntKind.wrap_i64]; omega
  go_wp2_with fail
  go_end0
  exact ⟨rfl, ⟨_, hE.out.1.1, hE.out.1.2⟩, hE.out.2⟩
end Go.Proofs.YtkkcngppmhebbaaGreatDoor
