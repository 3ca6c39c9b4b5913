/-
  Twins of instructions: TwinOps, LeftOps.
-/
import Derived.Test.YtkkcngppmhebbaaDoorAsmAlive
import Derived.Test.YtkkcngppmhebbaaDoorCopyRow
import Derived.Test.YtkkcngppmhebbaaDoorCmdOpen
import Derived.Test.YtkkcngppmhebbaaDoorRegion
import Derived.Deep.OwnRows
set_option linter.unusedVariables false
set_option linter.unusedSimpArgs false
namespace Go.Proofs.YtkkcngppmhebbaaDoor
open Go.RowKit Go.Sort

def markO (n : Nat) : Cmd := ⟨99, 0, 0, 0, 0, -1000 - (n : Int)⟩
def marksO (n : Nat) : List Cmd := [markO n, markO (n + 1)]
set_option maxHeartbeats 400000 in
theorem markOp_any (n : Int) (h1 : 0 ≤ n) (h2 : n ≤ 100000000000) (w : World) :
    Calls Tryd.prog 16 #[.int .i64 n] w fun e w' => e = .returned (.agg #[.int .u8 99, .int .u8 0, .int .u8 0, .int .u8 0, .int .u8 0, .int .i64 (-1000 - n)]) ∧ Below w.heap.size w w' := by
  go_enter Tryd.func16, Tryd.ntmps16
  go_wp2
  exact bodyPost_ret (v := .agg #[.int .u8 99, .int .u8 0, .int .u8 0, .int .u8 0, .int .u8 0, .int .i64 (-1000 - n)]) (by simp [results, Tryd.results16, go_sem]) rfl ⟨rfl, (Below.refl _ _).alloc (Nat.le_refl _) _⟩
theorem cmds_flat_len (l : List Cmd) : (l.flatMap Cmd.cells).length = l.length * 6 := by
  induction l with
  | nil => rfl
  | cons t l ih => rw [List.flatMap_cons, List.length_append, ih]; simp [Cmd.cells]; omega
theorem cmds_flat_one (l : List Cmd) : ∀ v ∈ l.flatMap Cmd.cells, v.oneCell' = true := fun v hv => by
  obtain ⟨t, _, ht⟩ := List.mem_flatMap.1 hv
  simp only [Cmd.cells, List.mem_cons, List.not_mem_nil, or_false] at ht
  rcases ht with rfl | rfl | rfl | rfl | rfl | rfl <;> rfl
theorem cmds_cells {w : World} {g off : Nat} {l : List Cmd} (h : ∀ k t, l[k]? = some t → CmdAt w g (off + k * 6) t) (j : Nat) (v : Value) (hv : (l.flatMap Cmd.cells)[j]? = some v) : w.cell? ⟨g, off + j, none⟩ = some v := by
  have hj : j < l.length * 6 := by
    rw [← cmds_flat_len]; exact (List.getElem?_eq_some_iff.1 hv).1
  have hk : j / 6 < l.length := by omega
  have ht := h (j / 6) _ (List.getElem?_eq_getElem hk)
  have e : j = (j / 6) * 6 + j % 6 := by omega
  have hf := flat_at Cmd.cells 6 (fun _ => rfl) l (j / 6) (j % 6) _ (List.getElem?_eq_getElem hk) (by omega)
  rw [← e, hv] at hf
  generalize l[j / 6] = t at *
  rw [e, ← Nat.add_assoc]
  rcases (by omega : j % 6 = 0 ∨ j % 6 = 1 ∨ j % 6 = 2 ∨ j % 6 = 3 ∨ j % 6 = 4 ∨ j % 6 = 5) with h4 | h4 | h4 | h4 | h4 | h4 <;> rw [h4] at hf ⊢ <;> rw [hf]
  · exact ht.c0
  · exact ht.c1
  · exact ht.c2
  · exact ht.c3
  · exact ht.c4
  · exact ht.c5
theorem cmds_own {w : World} {base g n cap : Nat} {es : List Cmd} (h : w.ownsRow base 37 6 (.slice (some ⟨g, 0, none⟩) n cap) n (es.flatMap Cmd.cells)) (k : Nat) (e : Cmd) (hk : es[k]? = some e) : CmdAt w g (k * 6) e := by
  have hl := h.1
  rw [cmds_flat_len] at hl
  have hlt : k < es.length := (List.getElem?_eq_some_iff.1 hk).1
  have key : ∀ j, j < 6 → w.cell? ⟨g, k * 6 + j, none⟩ = e.cells[j]? := fun j hj => by
    rw [h.cellAt (k * 6 + j) (by omega)]
    exact flat_at Cmd.cells 6 (fun _ => rfl) es k j e hk hj
  exact ⟨key 0 (by decide), key 1 (by decide), key 2 (by decide), key 3 (by decide), key 4 (by decide), key 5 (by decide)⟩
theorem own_fill6 {base : Nat} {e : TypeId} {g n cap : Nat} {w : World} {xs : List Value} (h : w.ownsRow base e 6 (.slice (some ⟨g, 0, none⟩) n cap) n xs) (hn : n < cap) (a0 a1 a2 a3 a4 a5 : Value) :
    ((((((w.setCell ⟨g, n * 6, none⟩ a0).setCell ⟨g, n * 6 + 1, none⟩ a1).setCell ⟨g, n * 6 + 2, none⟩ a2).setCell ⟨g, n * 6 + 3, none⟩ a3).setCell ⟨g, n * 6 + 4, none⟩ a4).setCell ⟨g, n * 6 + 5, none⟩ a5).ownsRow base e 6 (.slice (some ⟨g, 0, none⟩) (n + 1) cap) (n + 1) (xs ++ [a0, a1, a2, a3, a4, a5]) :=
  own_fill h hn [a0, a1, a2, a3, a4, a5] rfl
theorem made_ownk (w : World) (cs : Array Value) (T : TypeId) (k n : Nat) (hn : n ≤ 1000000) (hs : cs.size = (n + 2) * k) :
    (w.alloc (.cells cs T)).ownsRow w.heap.size T k (.slice (some ⟨w.heap.size, 0, none⟩) n (n + 2)) n (cs.toList.take (n * k)) :=
  ⟨by rw [List.length_take, Array.length_toList, hs]; exact Nat.min_eq_left (Nat.mul_le_mul_right _ (by omega)), .inr ⟨w.heap.size, n + 2, cs, rfl, Nat.le_refl _, heap_alloc_new w _, by omega, by simp only [maxLen]; omega, hs, rfl⟩⟩

set_option maxHeartbeats 4000000 in
set_option maxRecDepth 100000 in
theorem twinOps_any (A : Option Addr) (c : Nat) (l : List Cmd) (B : Nat) (w : World) (hT : CmdsAt w B A l) (hBw : B ≤ w.heap.size) (hn : l.length ≤ 1000000) :
    Calls Tryd.prog 7 #[.slice A l.length c] w fun e w' => e = .returned (.slice (some ⟨w.heap.size, 0, none⟩) l.length (l.length + 2)) ∧
      w'.ownsRow w.heap.size 37 6 (.slice (some ⟨w.heap.size, 0, none⟩) (l.length + 2) (l.length + 2)) (l.length + 2) ((l ++ marksO l.length).flatMap Cmd.cells) ∧ Below w.heap.size w w' := by
  obtain ⟨i0, hi0, hz0, hz1, hz2⟩ := info_parts infoOp
  have hmk0 := run_make (P := Tryd.prog) w 22 37 i0 _ Tryd.underlying22 hi0 hz0 .i64 .i64 (l.length : Int) ((l.length : Int) + 2) (by omega) (by omega) (by rw [hz2]; omega) (by omega)
  rw [show ((l.length : Int) + 2).toNat = l.length + 2 by omega, Int.toNat_natCast, hz1] at hmk0
  obtain ⟨cs, hcs, hsz⟩ : ∃ cs, madeCells (Value.cells (.agg #[.int .u8 0, .int .u8 0, .int .u8 0, .int .u8 0, .int .u8 0, .int .i64 0])) ((l.length + 2) * 6) = cs ∧ cs.size = (l.length + 2) * 6 := ⟨_, rfl, size_madeCells _ _⟩
  rw [hcs] at hmk0
  clear hcs
  have hown := made_ownk w cs 37 6 l.length (by omega) hsz
  have hsrc : 0 < l.length → ∃ ad, A = some ad ∧ ∀ j v, (l.flatMap Cmd.cells)[j]? = some v → (w.alloc (.cells cs 37)).cell? (ad.add j) = some v := fun hpos => by
    obtain ⟨g, off, hA, hg, hc⟩ := hT (by rintro rfl; simp at hpos)
    refine ⟨_, hA, fun j v hv => ?_⟩
    rw [add_plain, ← cmds_cells hc j v hv]
    exact ((Below.refl w.heap.size w).alloc (Nat.le_refl _) _).cell (p := ⟨g, off + j, none⟩) (Nat.lt_of_lt_of_le hg hBw)
  have HS := Lib.hid hsrc
  have HO := Lib.hid hown
  have HL := Lib.hid (cmds_flat_len l)
  have H1 := Lib.hid (cmds_flat_one l)
  have HB0 : Hid (Below w.heap.size w (w.alloc (.cells cs 37))) := Lib.hid ((Below.refl w.heap.size w).alloc (Nat.le_refl _) _)
  have hE : (l ++ marksO l.length).flatMap Cmd.cells = (l.flatMap Cmd.cells ++ [.int .u8 99, .int .u8 0, .int .u8 0, .int .u8 0, .int .u8 0, .int .i64 (-1000 - (l.length : Int))]) ++ [.int .u8 99, .int .u8 0, .int .u8 0, .int .u8 0, .int .u8 0, .int .i64 (-1000 - ((l.length : Int) + 1))] := by
    rw [List.flatMap_append, List.append_assoc]; rfl
  rw [hE]
  clear hsrc hown hi0 hz0 hz1 hz2 hsz hT hE
  generalize hF : l.flatMap Cmd.cells = F at *
  generalize hN : l.length = n at *
  clear hF hN
  have hi4 : (Tryd.prog.info? 37).map (·.size) = some 6 := by kernel_rfl
  have HI := Lib.hid hi4
  clear hi4
  go_enter Tryd.func7, Tryd.ntmps7
  go_wp2_with ((refine wpList_copy_full rfl (.tmp 12) (.tmp 13) 22 22 rfl 37 6 Tryd.underlying22 HI.out w.heap.size 37 w.heap.size n (n + 2) _ HO.out A c rfl rfl F HL.out HS.out H1.out ?_; intro w1 hown1 hgrow1))
  have HO1 := Lib.hid hown1
  have HB1 : Hid (Below w.heap.size w w1) := Lib.hid (HB0.out.grown hgrow1 (by simp) (fun k h => by injection h with h; omega))
  clear hown1 hgrow1 HS HO hmk0
  refine wp_loop_rounds 3 ?_
  rw [rounds_succ]
  go_wp2_with fail
  refine (markOp_any _ (by omega) (by omega) _).mono ?_
  rintro e w2 ⟨rfl, hb⟩
  have HO2 := Lib.hid (own_belowI HO1.out hb)
  have HB2 : Hid (Below w.heap.size w w2) := Lib.hid (HB1.out.trans (hb.mono HB1.out.size))
  clear hb
  obtain ⟨hroom, hfz⟩ := own_rooms (o := n * 6) HO2.out (by omega)
  obtain ⟨u0, k0⟩ := hroom 0 (by decide)
  obtain ⟨u1, k1⟩ := hroom 1 (by decide)
  obtain ⟨u2, k2⟩ := hroom 2 (by decide)
  obtain ⟨u3, k3⟩ := hroom 3 (by decide)
  obtain ⟨u4, k4⟩ := hroom 4 (by decide)
  obtain ⟨u5, k5⟩ := hroom 5 (by decide)
  rw [Nat.add_zero] at k0
  have z0 := hfz (n * 6)
  have z1 := hfz (n * 6 + 1)
  have z2 := hfz (n * 6 + 2)
  have z3 := hfz (n * 6 + 3)
  have z4 := hfz (n * 6 + 4)
  have z5 := hfz (n * 6 + 5)
  clear hroom hfz
  have HO3 := Lib.hid (own_fill6 HO2.out (by omega) (.int .u8 99) (.int .u8 0) (.int .u8 0) (.int .u8 0) (.int .u8 0) (.int .i64 (-1000 - (n : Int))))
  have HB3 := Lib.hid (putAll_below (g := w.heap.size) (Nat.le_refl _) [.int .u8 99, .int .u8 0, .int .u8 0, .int .u8 0, .int .u8 0, .int .i64 (-1000 - (n : Int))] (n * 6) _ HB2.out)
  simp only [putAll, Nat.add_assoc, Nat.reduceAdd] at HB3
  go_wp2_with fail
  clear k0 k1 k2 k3 k4 k5 z0 z1 z2 z3 z4 z5 HO2 HB2
  generalize (((((w2.setCell ⟨w.heap.size, n * 6, none⟩ (.int .u8 99)).setCell ⟨w.heap.size, n * 6 + 1, none⟩ (.int .u8 0)).setCell ⟨w.heap.size, n * 6 + 2, none⟩ (.int .u8 0)).setCell ⟨w.heap.size, n * 6 + 3, none⟩ (.int .u8 0)).setCell ⟨w.heap.size, n * 6 + 4, none⟩ (.int .u8 0)).setCell ⟨w.heap.size, n * 6 + 5, none⟩ (.int .i64 (-1000 - (n : Int))) = w3 at HO3 HB3 ⊢
  rw [rounds_succ]
  go_wp2_with fail
  refine (markOp_any _ (by omega) (by omega) _).mono ?_
  rintro e w4 ⟨rfl, hb⟩
  have HO2 := Lib.hid (own_belowI HO3.out hb)
  have HB2 : Hid (Below w.heap.size w w4) := Lib.hid (HB3.out.trans (hb.mono HB3.out.size))
  clear hb
  obtain ⟨hroom, hfz⟩ := own_rooms (o := (n + 1) * 6) HO2.out (by omega)
  obtain ⟨u0, k0⟩ := hroom 0 (by decide)
  obtain ⟨u1, k1⟩ := hroom 1 (by decide)
  obtain ⟨u2, k2⟩ := hroom 2 (by decide)
  obtain ⟨u3, k3⟩ := hroom 3 (by decide)
  obtain ⟨u4, k4⟩ := hroom 4 (by decide)
  obtain ⟨u5, k5⟩ := hroom 5 (by decide)
  rw [Nat.add_zero] at k0
  have z0 := hfz ((n + 1) * 6)
  have z1 := hfz ((n + 1) * 6 + 1)
  have z2 := hfz ((n + 1) * 6 + 2)
  have z3 := hfz ((n + 1) * 6 + 3)
  have z4 := hfz ((n + 1) * 6 + 4)
  have z5 := hfz ((n + 1) * 6 + 5)
  clear hroom hfz
  have HO5 := Lib.hid (own_fill6 HO2.out (by omega) (.int .u8 99) (.int .u8 0) (.int .u8 0) (.int .u8 0) (.int .u8 0) (.int .i64 (-1000 - ((n : Int) + 1))))
  have HB5 := Lib.hid (putAll_below (g := w.heap.size) (Nat.le_refl _) [.int .u8 99, .int .u8 0, .int .u8 0, .int .u8 0, .int .u8 0, .int .i64 (-1000 - ((n : Int) + 1))] ((n + 1) * 6) _ HB2.out)
  simp only [putAll, Nat.add_assoc, Nat.reduceAdd] at HB5
  go_wp2_with fail
  clear k0 k1 k2 k3 k4 k5 z0 z1 z2 z3 z4 z5 HO2 HB2
  generalize (((((w4.setCell ⟨w.heap.size, (n + 1) * 6, none⟩ (.int .u8 99)).setCell ⟨w.heap.size, (n + 1) * 6 + 1, none⟩ (.int .u8 0)).setCell ⟨w.heap.size, (n + 1) * 6 + 2, none⟩ (.int .u8 0)).setCell ⟨w.heap.size, (n + 1) * 6 + 3, none⟩ (.int .u8 0)).setCell ⟨w.heap.size, (n + 1) * 6 + 4, none⟩ (.int .u8 0)).setCell ⟨w.heap.size, (n + 1) * 6 + 5, none⟩ (.int .i64 (-1000 - ((n : Int) + 1))) = w5 at HO5 HB5 ⊢
  rw [rounds_succ]
  go_wp2_with fail
  go_ret
  exact ⟨rfl, HO5.out, HB5.out⟩

abbrev IsS (w0 : World) (X : Nat) (n : Int) (W : World) : Prop := Below w0.heap.size w0 W ∧ W.cell? ⟨X, 0, none⟩ = some (.int .u8 99) ∧ W.cell? ⟨X, 1, none⟩ = some (.int .u8 0) ∧ W.cell? ⟨X, 2, none⟩ = some (.int .u8 0) ∧ W.cell? ⟨X, 3, none⟩ = some (.int .u8 0) ∧ W.cell? ⟨X, 4, none⟩ = some (.int .u8 0) ∧ W.cell? ⟨X, 5, none⟩ = some (.int .i64 (-1000 - n))
set_option maxHeartbeats 1000000 in
set_option maxRecDepth 100000 in
theorem isOp_any (n : Int) (h1 : 0 ≤ n) (h2 : n ≤ 100000000000) (w : World) :
    Calls Tryd.prog 27 #[.agg #[.int .u8 99, .int .u8 0, .int .u8 0, .int .u8 0, .int .u8 0, .int .i64 (-1000 - n)], .int .i64 n] w fun e w' => e = .returned (.bool true) ∧ Below w.heap.size w w' := by
  obtain ⟨X, hX⟩ : ∃ X, w.heap.size = X := ⟨_, rfl⟩
  obtain ⟨w0, hw0⟩ : ∃ w0, w.alloc (.cells #[.int .u8 99, .int .u8 0, .int .u8 0, .int .u8 0, .int .u8 0, .int .i64 (-1000 - n)] 37 (0, 0)) = w0 := ⟨_, rfl⟩
  have HB0 : Hid (Below w.heap.size w w0) := Lib.hid (by rw [← hw0]; exact (Below.refl _ _).alloc (Nat.le_refl _) _)
  have hx0 : w0.heap[X]? = some (.cells #[.int .u8 99, .int .u8 0, .int .u8 0, .int .u8 0, .int .u8 0, .int .i64 (-1000 - n)] 37 (0, 0)) := by rw [← hw0, ← hX]; exact heap_alloc_new w _
  have HS := Lib.hid (fun W (h : Below w0.heap.size w0 W) => (⟨h, cell_of (blk_below hx0 h) 0, cell_of (blk_below hx0 h) 1, cell_of (blk_below hx0 h) 2, cell_of (blk_below hx0 h) 3, cell_of (blk_below hx0 h) 4, cell_of (blk_below hx0 h) 5⟩ : IsS w0 X n W))
  have HE := Lib.hid (fun W (h : Below w0.heap.size w0 W) => HB0.out.trans (h.mono HB0.out.size))
  clear hx0
  go_enter Tryd.func27, Tryd.ntmps27
  go_wp2_with fail
  clear hw0 hX
  refine wp_region_L (l := 4) (S := (IsS w0 X n)) (by kernel_rfl) ?_ (fun hHeld => ?_)
  · ((try dsimp only); (exact HS.out _ (Below.refl _ _).drew))
  refine wpAnyL_take (i := 0) (oi := _) (v := ?v1) rfl (by kernel_rfl) (fun _ _ _ h => h) (by assumption) (Or.inl ⟨by kernel_rfl, ?y1⟩) ?r1
  case y1 => (intro w hSw; (try dsimp only at hSw); go_simp; all_goals with_reducible rfl)
  try simp only [List.getElem_toArray, List.getElem_cons_zero, List.getElem_cons_succ, Act.put, List.setIfInBounds_toArray, List.set_cons_zero, List.set_cons_succ]
  refine wpAnyL_take (i := 1) (oi := _) (v := ?v2) rfl (by kernel_rfl) (fun _ _ _ h => h) (by assumption) (Or.inl ⟨by kernel_rfl, ?y2⟩) ?r2
  case y2 => (intro w hSw; (try dsimp only at hSw); go_simp; all_goals with_reducible rfl)
  try simp only [List.getElem_toArray, List.getElem_cons_zero, List.getElem_cons_succ, Act.put, List.setIfInBounds_toArray, List.set_cons_zero, List.set_cons_succ]
  refine wpAnyL_step (j := 2) (o := _) (by kernel_rfl) rfl (fun K hK => ?_)
  (go_simp; go_at_call 16; refine (markOp_any n h1 h2 _).mono ?_; rintro e w4 ⟨rfl, hb4⟩)
  refine hK _ _ ?_ (fun hHeld => ?_)
  · ((try dsimp only); (exact HS.out _ (hHeld.1.trans (hb4.mono hHeld.1.size))))
  clear hK K
  try simp only [List.getElem_toArray, List.getElem_cons_zero, List.getElem_cons_succ, Act.put, List.setIfInBounds_toArray, List.set_cons_zero, List.set_cons_succ]
  refine wpAnyL_take (i := 3) (oi := _) (v := ?v4) rfl (by kernel_rfl) (fun _ _ _ h => h) (by assumption) (Or.inl ⟨by kernel_rfl, ?y4⟩) ?r4
  case y4 => (intro w hSw; (try dsimp only at hSw); go_simp; all_goals with_reducible rfl)
  try simp only [List.getElem_toArray, List.getElem_cons_zero, List.getElem_cons_succ, Act.put, List.setIfInBounds_toArray, List.set_cons_zero, List.set_cons_succ]
  refine wpAnyL_last (j := 4) (o := _) (by kernel_rfl) rfl (by rfl) (by kernel_rfl) (fun K hK => ?_)
  go_simp
  (refine hK _ _ ?_; clear hK K)
  try simp only [List.getElem_toArray, List.getElem_cons_zero, List.getElem_cons_succ, Act.put, List.setIfInBounds_toArray, List.set_cons_zero, List.set_cons_succ]
  go_wp2_with fail
  go_ret
  exact ⟨rfl, HE.out _ hHeld.1⟩

set_option maxHeartbeats 4000000 in
set_option maxRecDepth 100000 in
theorem leftOps_any (b : Nat) (A : Option Addr) (c : Nat) (l : List Cmd) (w : World) (h1 : b < w.heap.size) (h2 : ∀ k e, (l ++ marksO l.length)[k]? = some e → CmdAt w b (k * 6) e) (h3 : CmdsAt w w.heap.size A l) (hn : l.length ≤ 1000000) :
    Calls Tryd.prog 10 #[.slice (some ⟨b, 0, none⟩) l.length (l.length + 2), .slice A l.length c] w fun e w' => e = .returned (.bool true) ∧ Below w.heap.size w w' := by
  have HM0 := Lib.hid (fun W (hb : Below w.heap.size w W) (k : Nat) e (he : (l ++ marksO l.length)[l.length + k]? = some e) => (h2 (l.length + k) e he).keep (fun o' => hb.cell (p := ⟨b, o', none⟩) h1))
  have HM : Hid (∀ W, Below w.heap.size w W → ∀ (k : Nat) e, (marksO l.length)[k]? = some e → CmdAt W b ((l.length + k) * 6) e) := Lib.hid (fun W hb k e he => HM0.out W hb k e (by rw [List.getElem?_append_right (by omega), Nat.add_sub_cancel_left]; exact he))
  have h2' : CmdsAt w w.heap.size (some ⟨b, 0, none⟩) l := fun _ => ⟨b, 0, rfl, h1, fun k e he => by
    rw [Nat.zero_add]
    exact h2 k e (by rw [List.getElem?_append_left (List.getElem?_eq_some_iff.1 he).1]; exact he)⟩
  have HS := Lib.hid (fun W (hb : Below w.heap.size w W) => sameOps_eq (some ⟨b, 0, none⟩) A (l.length + 2) c l W (hc_keep h2' hb) (hc_keep h3 hb) (by omega))
  clear h2 h2' h3 HM0
  generalize l.length = n at *
  go_enter Tryd.func10, Tryd.ntmps10
  go_wp2_with fail
  refine wp_loop_rounds 3 ?_
  rw [rounds_succ]
  obtain ⟨e0, e1, e2, e3, e4, e5⟩ := HM.out w (Below.refl w.heap.size w) 0 _ rfl
  simp only [markO, Int.natCast_add, Int.natCast_one, Nat.add_zero] at e0 e1 e2 e3 e4 e5
  go_wp2_with fail
  refine (isOp_any (n : Int) (by omega) (by omega) _).mono ?_
  rintro e w1 ⟨rfl, hbx⟩
  have hb1 : Below w.heap.size w w1 := ((Below.refl w.heap.size w)).trans (hbx.mono ((Below.refl w.heap.size w)).size)
  clear hbx e0 e1 e2 e3 e4 e5
  go_wp2_with fail
  rw [rounds_succ]
  obtain ⟨e0, e1, e2, e3, e4, e5⟩ := HM.out w1 hb1 1 _ rfl
  simp only [markO, Int.natCast_add, Int.natCast_one, Nat.add_zero] at e0 e1 e2 e3 e4 e5
  go_wp2_with fail
  refine (isOp_any ((n : Int) + 1) (by omega) (by omega) _).mono ?_
  rintro e w2 ⟨rfl, hbx⟩
  have hb2 : Below w.heap.size w w2 := (hb1).trans (hbx.mono (hb1).size)
  clear hbx e0 e1 e2 e3 e4 e5
  go_wp2_with fail
  rw [rounds_succ]
  go_wp2_with fail
  refine (HS.out _ hb2).mono ?_
  rintro e w3 ⟨rfl, q, rfl⟩
  go_wp2_with fail
  go_ret
  exact ⟨rfl, hb2.trans (below_drewN w.heap.size w2 q)⟩
end Go.Proofs.YtkkcngppmhebbaaDoor
