/-
  ShapeWhole: the law, walked.
-/
import Derived.Test.YtkklogikakcanaaDoorShapeA
set_option linter.unusedVariables false
set_option linter.unusedSimpArgs false
namespace Go.Proofs.YtkklogikakcanaaDoor
open Go Go.RowKit

abbrev ShR (X rb ro k : Nat) (p : Pr) (nm : List UInt8) (W : World) : Prop := W.cell? ⟨X, 0, none⟩ = some (.slice p.rd.a p.rs.length p.rd.c) ∧ W.cell? ⟨X, 1, none⟩ = some (.slice (some ⟨rb, ro, none⟩) p.ss.length p.sd.c) ∧ W.cell? ⟨X, 2, none⟩ = some (.slice p.fd.a p.fs.length p.fd.c) ∧ W.cell? ⟨X, 3, none⟩ = some (.slice p.td.a p.ts.length p.td.c) ∧ W.cell? ⟨rb, ro + k * 4, none⟩ = some (.string ⟨nm.toArray⟩)
theorem ShR.below {X rb ro k : Nat} {p : Pr} {nm : List UInt8} {W W' : World} (h : ShR X rb ro k p nm W) (hb : Below W.heap.size W W') : ShR X rb ro k p nm W' := by
  obtain ⟨h0, h1, h2, h3, h4⟩ := h
  exact ⟨(hb.cell (World.block_lt_of_cell? _ _ h0)).trans h0, (hb.cell (World.block_lt_of_cell? _ _ h1)).trans h1, (hb.cell (World.block_lt_of_cell? _ _ h2)).trans h2, (hb.cell (World.block_lt_of_cell? _ _ h3)).trans h3, (hb.cell (World.block_lt_of_cell? _ _ h4)).trans h4⟩
abbrev OfQ (X Y rb ro k : Nat) (p : Pr) (rnm : List UInt8) (n c : Nat) (nm : List UInt8) (W : World) : Prop := (W.cell? ⟨X, 0, none⟩ = some (.slice p.rd.a p.rs.length p.rd.c) ∧ W.cell? ⟨X, 1, none⟩ = some (.slice p.sd.a p.ss.length p.sd.c) ∧ W.cell? ⟨X, 2, none⟩ = some (.slice p.fd.a p.fs.length p.fd.c) ∧ W.cell? ⟨X, 3, none⟩ = some (.slice p.td.a p.ts.length p.td.c)) ∧ W.cell? ⟨Y, 0, none⟩ = some (.string ⟨rnm.toArray⟩) ∧ W.cell? ⟨Y, 1, none⟩ = some (.slice (some ⟨rb, ro, none⟩) n c) ∧ W.cell? ⟨rb, ro + k * 4, none⟩ = some (.string ⟨nm.toArray⟩)
theorem OfQ.below {X Y rb ro k : Nat} {p : Pr} {rnm : List UInt8} {n c : Nat} {nm : List UInt8} {W W' : World} (h : OfQ X Y rb ro k p rnm n c nm W) (hb : Below W.heap.size W W') : OfQ X Y rb ro k p rnm n c nm W' := by
  obtain ⟨⟨h0, h1, h2, h3⟩, h4, h5, h6⟩ := h
  exact ⟨⟨(hb.cell (World.block_lt_of_cell? _ _ h0)).trans h0, (hb.cell (World.block_lt_of_cell? _ _ h1)).trans h1, (hb.cell (World.block_lt_of_cell? _ _ h2)).trans h2, (hb.cell (World.block_lt_of_cell? _ _ h3)).trans h3⟩, (hb.cell (World.block_lt_of_cell? _ _ h4)).trans h4, (hb.cell (World.block_lt_of_cell? _ _ h5)).trans h5, (hb.cell (World.block_lt_of_cell? _ _ h6)).trans h6⟩
abbrev r7 : List UInt8 := [114]
abbrev prW (b1 b2 b3 : Nat) : Pr := ⟨⟨some ⟨b2, 0, none⟩, 1⟩, [⟨r7, ⟨some ⟨b1, 0, none⟩, 2⟩, [⟨[120], numT⟩, ⟨[121], numT⟩]⟩], ⟨some ⟨b3, 0, none⟩, 1⟩, [⟨[97], numT⟩], hdN, [], hdN, []⟩
theorem prW_ok (b1 b2 b3 : Nat) : typesCheck (prW b1 b2 b3) = (0, 0) := by
  have n1 : nameB [114] = true := by decide
  have n2 : nameB [120] = true := by decide
  have n3 : nameB [121] = true := by decide
  have n4 : nameB [97] = true := by decide
  simp [typesCheck, faultOf, chkPr, chkRes, chkFls, chkShs, chkFus, chkThs, Chk.bind, tyForm, numT, n1, n2, n3, n4, scFault, scPr, scHeads, scRes, scFds, scShs, scFus, scThs, Sc.bind, knownT]
theorem prW_words (b1 b2 b3 : Nat) : wordsS (prW b1 b2 b3) = (1, 0) := by unfold wordsS; rw [prW_ok]; rfl
theorem prW_size (b1 b2 b3 : Nat) : sizeS (prW b1 b2 b3) ⟨2, r7, 0⟩ = (2, 0) := size_at (p := prW b1 b2 b3) (by rw [prW_ok]) (i := 0) (r := ⟨r7, ⟨some ⟨b1, 0, none⟩, 2⟩, [⟨[120], numT⟩, ⟨[121], numT⟩]⟩) rfl
theorem prW_off (b1 b2 b3 : Nat) : offsetS (prW b1 b2 b3) r7 [121] = (1, 0) := offset_at (p := prW b1 b2 b3) (by rw [prW_ok]) (i := 0) (k := 1) (r := ⟨r7, ⟨some ⟨b1, 0, none⟩, 2⟩, [⟨[120], numT⟩, ⟨[121], numT⟩]⟩) (f := ⟨[121], numT⟩) rfl rfl
theorem prW_shared (b1 b2 b3 : Nat) : sharedS (prW b1 b2 b3) r7 = (0, 9) := by unfold sharedS; rw [prW_ok]; rfl
theorem five_allocs (w : World) (o1 o2 o3 o4 o5 : Obj) : Below w.heap.size w (((((w.alloc o1).alloc o2).alloc o3).alloc o4).alloc o5) ∧ (((((w.alloc o1).alloc o2).alloc o3).alloc o4).alloc o5).heap[w.heap.size + 1]? = some o2 ∧
    (((((w.alloc o1).alloc o2).alloc o3).alloc o4).alloc o5).heap[w.heap.size + 1 + 1]? = some o3 ∧ (((((w.alloc o1).alloc o2).alloc o3).alloc o4).alloc o5).heap[w.heap.size + 1 + 1 + 1]? = some o4 ∧ (((((w.alloc o1).alloc o2).alloc o3).alloc o4).alloc o5).heap[w.heap.size + 1 + 1 + 1 + 1]? = some o5 := by
  obtain ⟨h0, h1, h2, h3⟩ := four_allocs w o1 o2 o3 o4
  obtain ⟨w4, hw4⟩ : ∃ w4, (((w.alloc o1).alloc o2).alloc o3).alloc o4 = w4 := ⟨_, rfl⟩
  have s4 : w4.heap.size = w.heap.size + 1 + 1 + 1 + 1 := by rw [← hw4]; simp [World.size_alloc]
  rw [hw4] at h0 h1 h2 h3 ⊢
  have hb : Below w4.heap.size w4 (w4.alloc o5) := (Below.refl _ _).alloc (Nat.le_refl _) _
  exact ⟨h0.trans (hb.mono h0.size), (hb.block _ (blk_lt h1)).trans h1, (hb.block _ (blk_lt h2)).trans h2, (hb.block _ (blk_lt h3)).trans h3, by rw [← s4]; exact heap_alloc_new w4 _⟩
theorem numT_ok : numT.Ok := ⟨by unfold u8ok numT; decide, by simp [lenOk, numT], by unfold i64ok numT; decide⟩
theorem prW_in {w : World} {b1 b2 b3 : Nat} (h1 : w.heap[b1]? = some (.cells #[.string ⟨#[120]⟩, .int .u8 1, .string ⟨#[]⟩, .int .i64 0, .string ⟨#[121]⟩, .int .u8 1, .string ⟨#[]⟩, .int .i64 0] 50 (0, 0)))
    (h2 : w.heap[b2]? = some (.cells #[.string ⟨#[114]⟩, .slice (some ⟨b1, 0, none⟩) 2 2] 52 (0, 0))) (h3 : w.heap[b3]? = some (.cells #[.string ⟨#[97]⟩, .int .u8 1, .string ⟨#[]⟩, .int .i64 0] 50 (0, 0))) : PrIn w w.heap.size (prW b1 b2 b3) where
  rlen := by simp [lenOk]
  rrow := fun _ => ⟨b2, 0, rfl, blk_lt h2, fun i y hy => by
    match i, hy with
    | 0, hy => cases hy; exact ⟨cell_at h2 0, cell_at h2 1⟩
    | n + 1, hy => simp at hy⟩
  rsub := fun r hr => by
    rw [List.mem_singleton] at hr
    subst hr
    refine ⟨by simp [lenOk], by simp [lenOk], fun _ => ⟨b1, 0, rfl, blk_lt h1, fun i y hy => ?_⟩, fun f hf => ?_⟩
    · match i, hy with
      | 0, hy => cases hy; exact ⟨cell_at h1 0, cell_at h1 1, cell_at h1 2, cell_at h1 3⟩
      | 1, hy => cases hy; exact ⟨cell_at h1 4, cell_at h1 5, cell_at h1 6, cell_at h1 7⟩
      | n + 2, hy => simp at hy
    · rcases List.mem_cons.1 hf with rfl | hf
      · exact ⟨by simp [lenOk], numT_ok⟩
      · rw [List.mem_singleton] at hf; subst hf; exact ⟨by simp [lenOk], numT_ok⟩
  ss := ⟨by simp [lenOk], fun _ => ⟨b3, 0, rfl, blk_lt h3, fun i y hy => by
    match i, hy with
    | 0, hy => cases hy; exact ⟨cell_at h3 0, cell_at h3 1, cell_at h3 2, cell_at h3 3⟩
    | n + 1, hy => simp at hy⟩, fun f hf => by rw [List.mem_singleton] at hf; subst hf; exact ⟨by simp [lenOk], numT_ok⟩⟩
  flen := by simp [lenOk]
  frow := fun h => absurd rfl h
  fsub := fun r hr => by simp at hr
  tlen := by simp [lenOk]
  trow := fun h => absurd rfl h
  tsub := fun r hr => by simp at hr

set_option maxHeartbeats 8000000 in
set_option maxRecDepth 100000 in
theorem alive07_any (w : World) (G : TyG w.heap.size w) :
    Calls Tryd.prog 18 #[] w fun e w' => e = .returned (.bool true) ∧ Below w.heap.size w w' := by
  have HG : Hid (∀ W, Below w.heap.size w W → TyG W.heap.size W) := Lib.hid fun W hb => (G.below hb).1
  clear G
  go_enter Tryd.func18, Tryd.ntmps18
  go_wp2_with fail
  obtain ⟨w5, hw5⟩ : ∃ w5, ((((w.alloc (.cells #[.int .u8 1, .string ⟨#[]⟩, .int .i64 0] 40 (0, 0))).alloc (.cells #[.string ⟨#[120]⟩, .int .u8 1, .string ⟨#[]⟩, .int .i64 0, .string ⟨#[121]⟩, .int .u8 1, .string ⟨#[]⟩, .int .i64 0] 50 (0, 0))).alloc
    (.cells #[.string ⟨#[114]⟩, .slice (some ⟨w.heap.size + 1, 0, none⟩) 2 2] 52 (0, 0))).alloc (.cells #[.string ⟨#[97]⟩, .int .u8 1, .string ⟨#[]⟩, .int .i64 0] 50 (0, 0))).alloc
    (.cells #[.slice (some ⟨w.heap.size + 1 + 1, 0, none⟩) 1 1, .slice (some ⟨w.heap.size + 1 + 1 + 1, 0, none⟩) 1 1, .slice none 0 0, .slice none 0 0] 27 (0, 0)) = w5 := ⟨_, rfl⟩
  have F := five_allocs w (.cells #[.int .u8 1, .string ⟨#[]⟩, .int .i64 0] 40 (0, 0)) (.cells #[.string ⟨#[120]⟩, .int .u8 1, .string ⟨#[]⟩, .int .i64 0, .string ⟨#[121]⟩, .int .u8 1, .string ⟨#[]⟩, .int .i64 0] 50 (0, 0))
    (.cells #[.string ⟨#[114]⟩, .slice (some ⟨w.heap.size + 1, 0, none⟩) 2 2] 52 (0, 0)) (.cells #[.string ⟨#[97]⟩, .int .u8 1, .string ⟨#[]⟩, .int .i64 0] 50 (0, 0))
    (.cells #[.slice (some ⟨w.heap.size + 1 + 1, 0, none⟩) 1 1, .slice (some ⟨w.heap.size + 1 + 1 + 1, 0, none⟩) 1 1, .slice none 0 0, .slice none 0 0] 27 (0, 0))
  rw [hw5] at F
  obtain ⟨hb, f2, f3, f4, f5⟩ := F
  have hIn := prW_in f2 f3 f4
  have HI : Hid (∀ W, Below w5.heap.size w5 W → PrIn W W.heap.size (prW (w.heap.size + 1) (w.heap.size + 1 + 1) (w.heap.size + 1 + 1 + 1)) ∧ TyG W.heap.size W ∧ Below w.heap.size w W) := Lib.hid fun W h => ⟨hIn.keep h h.size, HG.out _ (hb.trans (h.mono hb.size)), hb.trans (h.mono hb.size)⟩
  have HX1 : Hid (∀ W, Below w5.heap.size w5 W → W.heap[w.heap.size + 1 + 1 + 1 + 1]? = some (.cells #[.slice (some ⟨w.heap.size + 1 + 1, 0, none⟩) 1 1, .slice (some ⟨w.heap.size + 1 + 1 + 1, 0, none⟩) 1 1, .slice none 0 0, .slice none 0 0] 27 (0, 0))) := Lib.hid fun W h => (h.block _ (blk_lt f5)).trans f5
  have HBw5 : Hid (Below w5.heap.size w5 w5) := Lib.hid (Below.refl _ _)
  rw [hw5]
  clear hb f2 f3 f4 f5 hIn hw5
  have C1 := words_any _ w5 (HI.out _ HBw5.out).1 (HI.out _ HBw5.out).2.1
  rw [prW_words] at C1
  refine C1.mono ?_
  clear C1
  rintro e w6 ⟨rfl, hb⟩
  have HBw6 : Hid (Below w5.heap.size w5 w6) := Lib.hid hb
  clear hb
  have row := HX1.out _ HBw6.out
  have q0 := cell_at row 0
  have q1 := cell_at row 1
  have q2 := cell_at row 2
  have q3 := cell_at row 3
  simp only [List.getElem?_toArray, List.getElem?_cons_zero, List.getElem?_cons_succ] at q0 q1 q2 q3
  clear row
  go_wp2_with fail
  have C1 := size_any _ 2 r7 0 w6 (HI.out _ HBw6.out).1 (HI.out _ HBw6.out).2.1 (by simp [lenOk])
  rw [prW_size] at C1
  refine C1.mono ?_
  clear C1
  rintro e w7 ⟨rfl, hb⟩
  have HBw7 : Hid (Below w5.heap.size w5 w7) := Lib.hid (HBw6.out.trans (hb.mono HBw6.out.size))
  clear hb q0 q1 q2 q3
  have row := HX1.out _ HBw7.out
  have q0 := cell_at row 0
  have q1 := cell_at row 1
  have q2 := cell_at row 2
  have q3 := cell_at row 3
  simp only [List.getElem?_toArray, List.getElem?_cons_zero, List.getElem?_cons_succ] at q0 q1 q2 q3
  clear row
  go_wp2_with fail
  have C1 := offset_any _ r7 [121] w7 (HI.out _ HBw7.out).1 (HI.out _ HBw7.out).2.1
  rw [prW_off] at C1
  refine C1.mono ?_
  clear C1
  rintro e w8 ⟨rfl, hb⟩
  have HBw8 : Hid (Below w5.heap.size w5 w8) := Lib.hid (HBw7.out.trans (hb.mono HBw7.out.size))
  clear hb q0 q1 q2 q3
  have row := HX1.out _ HBw8.out
  have q0 := cell_at row 0
  have q1 := cell_at row 1
  have q2 := cell_at row 2
  have q3 := cell_at row 3
  simp only [List.getElem?_toArray, List.getElem?_cons_zero, List.getElem?_cons_succ] at q0 q1 q2 q3
  clear row
  go_wp2_with fail
  have C1 := shared_any _ r7 w8 (HI.out _ HBw8.out).1 (HI.out _ HBw8.out).2.1
  rw [prW_shared] at C1
  refine C1.mono ?_
  clear C1
  rintro e w9 ⟨rfl, hb⟩
  have HBw9 : Hid (Below w5.heap.size w5 w9) := Lib.hid (HBw8.out.trans (hb.mono HBw8.out.size))
  clear hb q0 q1 q2 q3
  go_wp2_with fail
  go_ret
  exact ⟨rfl, (HI.out _ HBw9.out).2.2⟩

set_option maxHeartbeats 16000000 in
set_option maxRecDepth 100000 in
theorem shapeWhole_walk (p : Pr) (w : World) (hI : PrIn w w.heap.size p) (G : TyG w.heap.size w) :
    Calls Tryd.prog 6 #[.agg p.cells.toArray] w fun e w' => e = .returned (.bool true) ∧ Below w.heap.size w w' := by
  have HG0 : Hid (∀ W', Below w.heap.size w W' → TyG W'.heap.size W') := Lib.hid fun W' hb => (G.below hb).1
  have HI0 : Hid (∀ W', Below w.heap.size w W' → PrIn W' W'.heap.size p) := Lib.hid fun W' hb => hI.keep hb hb.size
  obtain ⟨X, hX⟩ : ∃ X, w.heap.size = X := ⟨_, rfl⟩
  obtain ⟨w1, hw1⟩ : ∃ w1, w.alloc (prObj p) = w1 := ⟨_, rfl⟩
  have hb1 : Below w.heap.size w w1 := by rw [← hw1]; exact (Below.refl _ _).alloc (Nat.le_refl _) _
  have x1 : w1.heap[X]? = some (prObj p) := by rw [← hw1, ← hX]; exact heap_alloc_new w _
  have HX1 : Hid (∀ W', Below w1.heap.size w1 W' → W'.heap[X]? = some (prObj p)) := Lib.hid fun W' hb => (hb.block X (blk_lt x1)).trans x1
  have HBw : Hid (∀ W', Below w1.heap.size w1 W' → Below w.heap.size w W') := Lib.hid fun W' hb => hb1.trans (hb.mono hb1.size)
  have HG : Hid (∀ W', Below w1.heap.size w1 W' → TyG W'.heap.size W') := Lib.hid fun W' hb => HG0.out _ (HBw.out _ hb)
  have HI : Hid (∀ W', Below w1.heap.size w1 W' → PrIn W' W'.heap.size p) := Lib.hid fun W' hb => HI0.out _ (HBw.out _ hb)
  have HN := Lib.hid (And.intro hX hw1)
  have hrg := prSize_range p
  have C1 := Lib.hid (prsize_any p w1 (HI0.out _ hb1))
  have HBw1 : Hid (Below w1.heap.size w1 w1) := Lib.hid (Below.refl _ _)
  have q0 := cell_at x1 0
  have q1 := cell_at x1 1
  have q2 := cell_at x1 2
  have q3 := cell_at x1 3
  simp only [List.getElem?_toArray, List.getElem?_cons_zero, List.getElem?_cons_succ] at q0 q1 q2 q3
  rw [← hw1, ← hX] at q0 q1 q2 q3
  dsimp only [Pr.cells]
  by_cases hbig : 262144 < prSizeS p
  · have CB : Hid (∀ (b : Nat) (W : World), W.cell? ⟨b, 0, none⟩ = some (.int .i64 (prSizeS p)) → Calls Tryd.prog 7 #[.slice (some ⟨b, 0, none⟩) 1 1] W fun e w' => e = .returned (.bool true) ∧ W = w') := Lib.hid fun b W hc => by
      have h := beyond_any b 0 1 (prSizeS p) hrg.1 (by omega) W hc
      rwa [show decide (262144 < prSizeS p) = true by simpa using hbig] at h
    generalize prSizeS p = sz at *
    clear hX hw1 hb1 x1 hI G hrg hbig
    go_enter Tryd.func6, Tryd.ntmps6
    go_wp2_with fail
    simp only [HN.out.1, HN.out.2]
    refine C1.out.mono ?_
    rintro e w2 ⟨rfl, hb2⟩
    have HB2 := Lib.hid (HBw.out _ hb2)
    clear hb2 C1
    go_wp2_with fail
    refine (CB.out _ _ (cell_at (heap_alloc_new w2 _) 0)).mono ?_
    rintro e w3 ⟨rfl, rfl⟩
    have HZ : Hid (∀ o, Below w.heap.size w (w2.alloc o)) := Lib.hid fun o => HB2.out.alloc HB2.out.size o
    go_wp2_with fail
    go_ret
    exact ⟨rfl, HZ.out _⟩
  · have CB : Hid (∀ (b : Nat) (W : World), W.cell? ⟨b, 0, none⟩ = some (.int .i64 (prSizeS p)) → Calls Tryd.prog 7 #[.slice (some ⟨b, 0, none⟩) 1 1] W fun e w' => e = .returned (.bool false) ∧ W = w') := Lib.hid fun b W hc => by
      have h := beyond_any b 0 1 (prSizeS p) hrg.1 (by omega) W hc
      rwa [show decide (262144 < prSizeS p) = false by simpa using hbig] at h
    have hsm := prSize_small (p := p) (by omega)
    have HSm := Lib.hid hsm
    have HL : Hid (p.ts.length ≤ 262144) := Lib.hid (by have := hsm.heads; omega)
    generalize prSizeS p = sz at *
    clear hX hw1 hb1 x1 hI G hrg hbig hsm
    go_enter Tryd.func6, Tryd.ntmps6
    go_wp2_with fail
    simp only [HN.out.1, HN.out.2]
    refine C1.out.mono ?_
    rintro e w2 ⟨rfl, hb2⟩
    have HB2 := Lib.hid hb2
    clear hb2 C1 q0 q1 q2 q3
    go_wp2_with fail
    refine (CB.out _ _ (cell_at (heap_alloc_new w2 _) 0)).mono ?_
    rintro e w3 ⟨rfl, hw3⟩
    have hb3 : Below w1.heap.size w1 w3 := by rw [← hw3]; exact HB2.out.alloc HB2.out.size _
    have HBw3 := Lib.hid hb3
    have g3 := HG.out _ hb3
    have CC := Lib.hid (typesCheck_any w3.heap.size p w3 g3.gl g3.num (HI.out _ hb3))
    have row := HX1.out _ HBw3.out
    have q0 := cell_at row 0
    have q1 := cell_at row 1
    have q2 := cell_at row 2
    have q3 := cell_at row 3
    simp only [List.getElem?_toArray, List.getElem?_cons_zero, List.getElem?_cons_succ] at q0 q1 q2 q3
    clear row
    obtain ⟨at_, er, hT⟩ : ∃ a b, typesCheck p = (a, b) := ⟨_, _, rfl⟩
    rw [hT] at CC
    have HT := Lib.hid hT
    clear hb3 hw3 HB2 CB hT g3
    go_wp2_with fail
    refine CC.out.mono ?_
    rintro e w4 ⟨rfl, hb4⟩
    have HBw4 : Hid (Below w1.heap.size w1 w4) := Lib.hid (HBw3.out.trans (hb4.mono HBw3.out.size))
    clear hb4 CC q0 q1 q2 q3
    have row := HX1.out _ HBw4.out
    have q0 := cell_at row 0
    have q1 := cell_at row 1
    have q2 := cell_at row 2
    have q3 := cell_at row 3
    simp only [List.getElem?_toArray, List.getElem?_cons_zero, List.getElem?_cons_succ] at q0 q1 q2 q3
    clear row
    have g4 := HG.out _ HBw4.out
    have CW := words_any p w4 (HI.out _ HBw4.out) g4
    have HCW := Lib.hid CW
    clear g4 CW
    by_cases h0 : er ≠ 0
    · have e0 : (er == 0) = false := by simpa using h0
      have hw : wordsS p = (0, 1) := by unfold wordsS; rw [HT.out]; exact if_pos h0
      rw [hw] at HCW
      clear h0 hw
      go_wp2_with fail
      refine HCW.out.mono ?_
      rintro e w5 ⟨rfl, hb⟩
      have HBw5 : Hid (Below w1.heap.size w1 w5) := Lib.hid (HBw4.out.trans (hb.mono HBw4.out.size))
      clear hb HCW q0 q1 q2 q3
      go_wp2_with fail
      refine (alive07_any w5 (HG.out _ HBw5.out)).mono ?_
      rintro e w99 ⟨rfl, hb⟩
      have HBz := Lib.hid ((HBw.out _ HBw5.out).trans (hb.mono (HBw.out _ HBw5.out).size))
      clear hb
      go_wp2_with fail
      go_ret
      exact ⟨rfl, HBz.out⟩
    obtain rfl : er = 0 := Decidable.not_not.1 h0
    have hok : (typesCheck p).2 = 0 := by rw [HT.out]
    have hw : wordsS p = ((p.ss.length : Int), 0) := by unfold wordsS; rw [if_neg (by rw [hok]; decide)]
    rw [hw] at HCW
    have HOk := Lib.hid hok
    clear h0 hw hok
    go_wp2_with fail
    refine HCW.out.mono ?_
    rintro e w5 ⟨rfl, hb⟩
    have HBw5 : Hid (Below w1.heap.size w1 w5) := Lib.hid (HBw4.out.trans (hb.mono HBw4.out.size))
    clear hb HCW q0 q1 q2 q3
    have row := HX1.out _ HBw5.out
    have q0 := cell_at row 0
    have q1 := cell_at row 1
    have q2 := cell_at row 2
    have q3 := cell_at row 3
    simp only [List.getElem?_toArray, List.getElem?_cons_zero, List.getElem?_cons_succ] at q0 q1 q2 q3
    clear row
    have CT : Hid (Calls Tryd.prog 15 #[p.val] w5 fun e w' => ∃ q : Pr, e = .returned (.agg q.cells.toArray) ∧ stripP q = stripP p ∧ TnP w' w5.heap.size w'.heap.size q ∧ Below w5.heap.size w5 w') := Lib.hid (twinPr_any w5.heap.size p w5 (HI.out _ HBw5.out) (Nat.le_refl _) (HG.out _ HBw5.out).gg HSm.out)
    go_wp2_with fail
    refine CT.out.mono ?_
    rintro e w6 ⟨q, rfl, hst, hTn, hb2⟩
    have hqi := hTn.inn
    obtain ⟨qrd, qrs, qsd, qss, qfd, qfs, qtd, qts⟩ := q
    obtain ⟨Q, hQ⟩ : ∃ Q, w6.heap.size = Q := ⟨_, rfl⟩
    obtain ⟨w7, hw7⟩ : ∃ w7, w6.alloc (.cells #[.slice qrd.a qrs.length qrd.c, .slice qsd.a qss.length qsd.c, .slice none 0 0, .slice none 0 0] 27 (0, 0)) = w7 := ⟨_, rfl⟩
    have hb7 : Below w6.heap.size w6 w7 := by rw [← hw7]; exact (Below.refl _ _).alloc (Nat.le_refl _) _
    have hq7 : PrIn w7 w7.heap.size ⟨qrd, qrs, qsd, qss, hdN, [], hdN, []⟩ := by
      have h := hqi.keep hb7 hb7.size
      exact ⟨h.rlen, h.rrow, h.rsub, h.ss, by simp [lenOk], fun h => absurd rfl h, fun r hr => by simp at hr, by simp [lenOk], fun h => absurd rfl h, fun r hr => by simp at hr⟩
    have hs2 : stripP ⟨qrd, qrs, qsd, qss, hdN, [], hdN, []⟩ = stripP ⟨p.rd, p.rs, p.sd, p.ss, hdN, [], hdN, []⟩ := by
      unfold stripP at hst ⊢
      injection hst with h1 h2 h3 h4 h5 h6 h7 h8
      dsimp only at h2 h4 ⊢
      rw [h2, h4]
    have hql : qss.length = p.ss.length := by
      unfold stripP at hst
      injection hst with h1 h2 h3 h4 h5 h6 h7 h8
      rw [show qss = p.ss from h4]
    have hw2 : wordsS ⟨qrd, qrs, qsd, qss, hdN, [], hdN, []⟩ = ((p.ss.length : Int), 0) := by
      unfold wordsS
      rw [typesCheck_same hs2, if_neg (by rw [types_heads (p := p) (q := ⟨p.rd, p.rs, p.sd, p.ss, hdN, [], hdN, []⟩) rfl rfl rfl rfl HOk.out]; decide)]
      dsimp only
      rw [hql]
    have HBw7 : Hid (Below w1.heap.size w1 w7) := Lib.hid (HBw5.out.trans ((hb2.trans (hb7.mono hb2.size)).mono HBw5.out.size))
    have C7 := words_any _ w7 hq7 (HG.out _ HBw7.out)
    rw [hw2] at C7
    have HC7 := Lib.hid C7
    have HW7 := Lib.hid (And.intro hQ hw7)
    dsimp only [Pr.cells]
    clear CT hst hTn hqi hb2 hQ hw7 hb7 hq7 hs2 hql hw2 C7 q0 q1 q2 q3
    go_wp2_with fail
    simp only [HW7.out.1, HW7.out.2]
    refine HC7.out.mono ?_
    rintro e w8 ⟨rfl, hb⟩
    have HBw8 : Hid (Below w1.heap.size w1 w8) := Lib.hid (HBw7.out.trans (hb.mono HBw7.out.size))
    clear hb HC7
    have row := HX1.out _ HBw8.out
    have q0 := cell_at row 0
    have q1 := cell_at row 1
    have q2 := cell_at row 2
    have q3 := cell_at row 3
    simp only [List.getElem?_toArray, List.getElem?_cons_zero, List.getElem?_cons_succ] at q0 q1 q2 q3
    clear row
    have hsl : (p.ss.length : Int) ≤ 262144 := by have := HSm.out.heads; omega
    have dss : ((p.ss.length : Int) == (p.ss.length : Int)) = true := by simp
    go_wp2_with fail
    clear q0 q1 q2 q3
    go_loopw [10] (fun ii wr => ∃ (k : Nat), ii = .int .i64 k ∧ k ≤ p.ss.length ∧ Hid (Below w1.heap.size w1 wr)) (fun ii _ => p.ss.length - (intOf ii).toNat)
    case atStart => exact ⟨0, rfl, Nat.zero_le _, HBw8⟩
    case round =>
      obtain ⟨k, rfl, hk, HBwr⟩ := hrel
      clear HBw8 HBw7 HBw5 HBw4 HBw3
      have p2 : (0 : Int) ≤ (k : Int) := Int.natCast_nonneg _
      by_cases hlt : k < p.ss.length
      · obtain ⟨s, hs⟩ : ∃ s, p.ss[k]? = some s := ⟨_, List.getElem?_eq_getElem hlt⟩
        have row := HX1.out _ HBwr.out
        have q0 := cell_at row 0
        have q1 := cell_at row 1
        have q2 := cell_at row 2
        have q3 := cell_at row 3
        simp only [List.getElem?_toArray, List.getElem?_cons_zero, List.getElem?_cons_succ] at q0 q1 q2 q3
        clear row
        obtain ⟨rb, ro, hda, hrb, hrow⟩ := (HI.out _ HBwr.out).ss.row (by intro h0; rw [h0] at hlt; simp at hlt)
        have z0 := (hrow k s hs).c0
        have hbd : Below w1.heap.size w1 wr.drew := HBwr.out.drew
        have CS0 := shared_any p s.nm wr.drew (HI.out _ hbd) (HG.out _ hbd)
        rw [shared_at HOk.out hs] at CS0
        rw [hda] at q1
        have HS : Hid (ShR X rb ro k p s.nm wr.drew) := Lib.hid ⟨q0, q1, q2, q3, z0⟩
        dsimp only [Pr.val] at CS0
        rw [hda] at CS0
        have CS := Lib.hid CS0
        have HBd := Lib.hid hbd
        have HLt := Lib.hid hlt
        have p1 : (k : Int) < (p.ss.length : Int) := by omega
        generalize s.nm = snm at *
        clear hrow hs hrb CS0 hbd hlt z0 q0 q1 q2 q3
        rw [hda]
        go_wp2_with fail
        refine wp_region_L (l := 12) (S := (ShR X rb ro k p snm)) (by kernel_rfl) ?_ (fun hHeld => ?_)
        · ((try dsimp only); (exact HS.out))
        refine wpAnyL_take (i := 0) (oi := _) (v := ?v1) rfl (by kernel_rfl) (fun _ _ _ h => h) (by assumption) (Or.inl ⟨by kernel_rfl, ?y1⟩) ?r1
        case y1 => (intro w hSw; (try dsimp only at hSw); go_simp; all_goals with_reducible rfl)
        try simp only [List.getElem_toArray, List.getElem_cons_zero, List.getElem_cons_succ, Act.put, List.setIfInBounds_toArray, List.set_cons_zero, List.set_cons_succ]
        refine wpAnyL_take (i := 1) (oi := _) (v := ?v2) rfl (by kernel_rfl) (fun _ _ _ h => h) (by assumption) (Or.inl ⟨by kernel_rfl, ?y2⟩) ?r2
        case y2 => (intro w hSw; (try dsimp only at hSw); go_simp; all_goals with_reducible rfl)
        try simp only [List.getElem_toArray, List.getElem_cons_zero, List.getElem_cons_succ, Act.put, List.setIfInBounds_toArray, List.set_cons_zero, List.set_cons_succ]
        refine wpAnyL_take (i := 2) (oi := _) (v := ?v3) rfl (by kernel_rfl) (fun _ _ _ h => h) (by assumption) (Or.inl ⟨by kernel_rfl, ?y3⟩) ?r3
        case y3 => (intro w hSw; (try dsimp only at hSw); go_simp; all_goals with_reducible rfl)
        try simp only [List.getElem_toArray, List.getElem_cons_zero, List.getElem_cons_succ, Act.put, List.setIfInBounds_toArray, List.set_cons_zero, List.set_cons_succ]
        refine wpAnyL_take (i := 3) (oi := _) (v := ?v4) rfl (by kernel_rfl) (fun _ _ _ h => h) (by assumption) (Or.inl ⟨by kernel_rfl, ?y4⟩) ?r4
        case y4 => (intro w hSw; (try dsimp only at hSw); go_simp; all_goals with_reducible rfl)
        try simp only [List.getElem_toArray, List.getElem_cons_zero, List.getElem_cons_succ, Act.put, List.setIfInBounds_toArray, List.set_cons_zero, List.set_cons_succ]
        refine wpAnyL_take (i := 4) (oi := _) (v := ?v5) rfl (by kernel_rfl) (fun _ _ _ h => h) (by assumption) (Or.inl ⟨by kernel_rfl, ?y5⟩) ?r5
        case y5 => (intro w hSw; (try dsimp only at hSw); go_simp; all_goals with_reducible rfl)
        try simp only [List.getElem_toArray, List.getElem_cons_zero, List.getElem_cons_succ, Act.put, List.setIfInBounds_toArray, List.set_cons_zero, List.set_cons_succ]
        refine wpAnyL_take (i := 5) (oi := _) (v := ?v6) rfl (by kernel_rfl) (fun _ _ _ h => h) (by assumption) (Or.inl ⟨by kernel_rfl, ?y6⟩) ?r6
        case y6 => (intro w hSw; (try dsimp only at hSw); go_simp; all_goals with_reducible rfl)
        try simp only [List.getElem_toArray, List.getElem_cons_zero, List.getElem_cons_succ, Act.put, List.setIfInBounds_toArray, List.set_cons_zero, List.set_cons_succ]
        refine wpAnyL_take (i := 6) (oi := _) (v := ?v7) rfl (by kernel_rfl) (fun _ _ _ h => h) (by assumption) (Or.inl ⟨by kernel_rfl, ?y7⟩) ?r7
        case y7 => (intro w hSw; (try dsimp only at hSw); go_simp; all_goals with_reducible rfl)
        try simp only [List.getElem_toArray, List.getElem_cons_zero, List.getElem_cons_succ, Act.put, List.setIfInBounds_toArray, List.set_cons_zero, List.set_cons_succ]
        refine wpAnyL_step (j := 7) (o := _) (by kernel_rfl) rfl (fun K hK => ?_)
        (go_simp; go_at_call 19; with_reducible refine CS.out.mono ?_; rintro e w2 ⟨rfl, hb⟩; have HS2 : Hid (ShR X rb ro k p snm w2) := Lib.hid (ShR.below HS.out hb); have HBd2 : Hid (Below w1.heap.size w1 w2) := Lib.hid (HBd.out.trans (hb.mono HBd.out.size)); clear hb)
        refine hK _ _ ?_ (fun hHeld => ?_)
        · ((try dsimp only); (exact HS2.out))
        clear hK K
        try simp only [List.getElem_toArray, List.getElem_cons_zero, List.getElem_cons_succ, Act.put, List.setIfInBounds_toArray, List.set_cons_zero, List.set_cons_succ]
        refine wpAnyL_take (i := 8) (oi := _) (v := ?v9) rfl (by kernel_rfl) (fun _ _ _ h => h) (by assumption) (Or.inl ⟨by kernel_rfl, ?y9⟩) ?r9
        case y9 => (intro w hSw; (try dsimp only at hSw); go_simp; all_goals with_reducible rfl)
        try simp only [List.getElem_toArray, List.getElem_cons_zero, List.getElem_cons_succ, Act.put, List.setIfInBounds_toArray, List.set_cons_zero, List.set_cons_succ]
        refine wpAnyL_take (i := 9) (oi := _) (v := ?v10) rfl (by kernel_rfl) (fun _ _ _ h => h) (by assumption) (Or.inl ⟨by kernel_rfl, ?y10⟩) ?r10
        case y10 => (intro w hSw; (try dsimp only at hSw); go_simp; all_goals with_reducible rfl)
        try simp only [List.getElem_toArray, List.getElem_cons_zero, List.getElem_cons_succ, Act.put, List.setIfInBounds_toArray, List.set_cons_zero, List.set_cons_succ]
        refine wpAnyL_take (i := 10) (oi := _) (v := ?v11) rfl (by kernel_rfl) (fun _ _ _ h => h) (by assumption) (Or.inl ⟨by kernel_rfl, ?y11⟩) ?r11
        case y11 => (intro w hSw; (try dsimp only at hSw); go_simp; all_goals with_reducible rfl)
        try simp only [List.getElem_toArray, List.getElem_cons_zero, List.getElem_cons_succ, Act.put, List.setIfInBounds_toArray, List.set_cons_zero, List.set_cons_succ]
        refine wpAnyL_take (i := 11) (oi := _) (v := ?v12) rfl (by kernel_rfl) (fun _ _ _ h => h) (by assumption) (Or.inl ⟨by kernel_rfl, ?y12⟩) ?r12
        case y12 => (intro w hSw; (try dsimp only at hSw); go_simp; all_goals with_reducible rfl)
        try simp only [List.getElem_toArray, List.getElem_cons_zero, List.getElem_cons_succ, Act.put, List.setIfInBounds_toArray, List.set_cons_zero, List.set_cons_succ]
        refine wpAnyL_last (j := 12) (o := _) (by kernel_rfl) rfl (by rfl) (by kernel_rfl) (fun K hK => ?_)
        go_simp
        (refine hK _ _ ?_; clear hK K)
        try simp only [List.getElem_toArray, List.getElem_cons_zero, List.getElem_cons_succ, Act.put, List.setIfInBounds_toArray, List.set_cons_zero, List.set_cons_succ]
        clear hHeld HS HS2 CS HBd
        have d5 : ((1 + (k : Int)) == (k : Int) + 1) = true := by simp; omega
        go_wp2_with fail
        go_roundw
        case rel => exact ⟨k + 1, by go_num, by have := HLt.out; omega, HBd2⟩
        case measure => have := HLt.out; simp [intOf]; omega
      · obtain rfl : k = p.ss.length := by omega
        have row := HX1.out _ HBwr.out
        have q0 := cell_at row 0
        have q1 := cell_at row 1
        have q2 := cell_at row 2
        have q3 := cell_at row 3
        simp only [List.getElem?_toArray, List.getElem?_cons_zero, List.getElem?_cons_succ] at q0 q1 q2 q3
        clear row
        go_wp2_with fail
        clear q0 q1 q2 q3
        have HBv := HBwr
        clear HBwr
        go_loopw [13] (fun ii wr => ∃ (i : Nat), ii = .int .i64 i ∧ i ≤ p.rs.length ∧ Hid (Below w1.heap.size w1 wr)) (fun ii _ => p.rs.length - (intOf ii).toNat)
        case atStart => exact ⟨0, rfl, Nat.zero_le _, HBv⟩
        case round =>
          obtain ⟨i, rfl, hi, HBwr⟩ := hrel
          clear HBv
          have p2 : (0 : Int) ≤ (i : Int) := Int.natCast_nonneg _
          have hrl : (p.rs.length : Int) ≤ 262144 := by have := HSm.out.heads; omega
          have row := HX1.out _ HBwr.out
          have q0 := cell_at row 0
          have q1 := cell_at row 1
          have q2 := cell_at row 2
          have q3 := cell_at row 3
          simp only [List.getElem?_toArray, List.getElem?_cons_zero, List.getElem?_cons_succ] at q0 q1 q2 q3
          clear row
          by_cases hlt : i < p.rs.length
          · obtain ⟨s, hs⟩ : ∃ s, p.rs[i]? = some s := ⟨_, List.getElem?_eq_getElem hlt⟩
            have hmem := List.mem_of_getElem? hs
            obtain ⟨rb, ro, hda, hrb, hrow⟩ := (HI.out _ HBwr.out).rrow (by intro h0; rw [h0] at hlt; simp at hlt)
            obtain ⟨z0, z1⟩ := hrow i s hs
            have hrI := (HI.out _ HBwr.out).rsub s hmem
            obtain ⟨Y, hY⟩ : ∃ Y, wr.heap.size = Y := ⟨_, rfl⟩
            obtain ⟨w6, hw6⟩ : ∃ w6, wr.alloc (.cells #[.string ⟨s.nm.toArray⟩, .slice s.d.a s.fs.length s.d.c] 52 (0, 0)) = w6 := ⟨_, rfl⟩
            have hb6 : Below wr.heap.size wr w6 := by rw [← hw6]; exact (Below.refl _ _).alloc (Nat.le_refl _) _
            have y6 : w6.heap[Y]? = some (.cells #[.string ⟨s.nm.toArray⟩, .slice s.d.a s.fs.length s.d.c] 52 (0, 0)) := by rw [← hw6, ← hY]; exact heap_alloc_new wr _
            have HY1 : Hid (∀ W, Below w6.heap.size w6 W → W.heap[Y]? = some (.cells #[.string ⟨s.nm.toArray⟩, .slice s.d.a s.fs.length s.d.c] 52 (0, 0))) := Lib.hid fun W hb => (hb.block Y (blk_lt y6)).trans y6
            have HB6 : Hid (∀ W, Below w6.heap.size w6 W → Below w1.heap.size w1 W) := Lib.hid fun W hb => HBwr.out.trans ((hb6.trans (hb.mono hb6.size)).mono HBwr.out.size)
            have hbw6 := HB6.out _ (Below.refl _ _)
            have CS0 := size_any p 2 s.nm 0 w6 (HI.out _ hbw6) (HG.out _ hbw6) hrI.nm
            rw [size_at HOk.out hs] at CS0
            dsimp only [Pr.val] at CS0
            rw [hda] at CS0 q0
            have CS := Lib.hid CS0
            have HOff : Hid (∀ (k : Nat) (f : Fl), s.fs[k]? = some f → ∀ W, Below w1.heap.size w1 W → Calls Tryd.prog 21 #[p.val, .string ⟨s.nm.toArray⟩, .string ⟨f.nm.toArray⟩] W fun e w' => e = .returned (.tuple #[.int .i64 (k : Int), .int .i64 0]) ∧ Below W.heap.size W w') := Lib.hid fun k f hf W hb => by
              have h := offset_any p s.nm f.nm W (HI.out _ hb) (HG.out _ hb)
              rw [offset_at HOk.out hs hf] at h
              exact h
            have HFs : Hid (∀ W, Below w1.heap.size w1 W → FlsIn W W.heap.size s.d s.fs) := Lib.hid fun W hb => ((HI.out _ hb).rsub s hmem).fs
            have hfl : (s.fs.length : Int) ≤ 262144 := by have := HSm.out.recs s hmem; omega
            have HLt := Lib.hid hlt
            have p1 : (i : Int) < (p.rs.length : Int) := by omega
            have y0 := cell_at y6 0
            have y1 := cell_at y6 1
            have rowx := HX1.out _ hbw6
            have x0 := cell_at rowx 0
            have x1 := cell_at rowx 1
            have x2 := cell_at rowx 2
            have x3 := cell_at rowx 3
            simp only [List.getElem?_toArray, List.getElem?_cons_zero, List.getElem?_cons_succ] at y0 y1 x0 x1 x2 x3
            rw [hda] at x0
            rw [← hw6] at y0 y1 x0 x1 x2 x3
            rw [← hY] at y0 y1
            clear hda
            have HW6 := Lib.hid (And.intro hY hw6)
            obtain ⟨rnm, rd, rfs⟩ := s
            dsimp only at *
            clear hrow hs hmem hrb hrI hY hw6 hb6 y6 hbw6 CS0 hlt rowx
            go_wp2_with fail
            simp only [HW6.out.1, HW6.out.2]
            with_reducible refine CS.out.mono ?_
            rintro e w7 ⟨rfl, hb⟩
            have HB7 : Hid (Below w6.heap.size w6 w7) := Lib.hid hb
            clear hb CS y0 y1 x0 x1 x2 x3 z0 z1 q0 q1 q2 q3
            have row := HY1.out _ HB7.out
            have y0 := cell_at row 0
            have y1 := cell_at row 1
            simp only [List.getElem?_toArray, List.getElem?_cons_zero, List.getElem?_cons_succ] at y0 y1
            have dff : ((rfs.length : Int) == (rfs.length : Int)) = true := by simp
            clear row
            go_wp2_with fail
            clear y0 y1
            go_loopw [17] (fun ii wr => ∃ (k : Nat), ii = .int .i64 k ∧ k ≤ rfs.length ∧ Hid (Below w6.heap.size w6 wr)) (fun ii _ => rfs.length - (intOf ii).toNat)
            case atStart => exact ⟨0, rfl, Nat.zero_le _, HB7⟩
            case round =>
              obtain ⟨k, rfl, hk, HBk⟩ := hrel
              clear HB7
              have p4 : (0 : Int) ≤ (k : Int) := Int.natCast_nonneg _
              by_cases hlt : k < rfs.length
              · obtain ⟨f, hf⟩ : ∃ f, rfs[k]? = some f := ⟨_, List.getElem?_eq_getElem hlt⟩
                have hbk := HB6.out _ HBk.out
                have rowx := HX1.out _ hbk
                have rowy := HY1.out _ HBk.out
                obtain ⟨rb2, ro2, hda2, hrb2, hrow2⟩ := (HFs.out _ hbk).row (by intro h0; rw [h0] at hlt; simp at hlt)
                have z0 := (hrow2 k f hf).c0
                have x0 := cell_at rowx 0
                have x1 := cell_at rowx 1
                have x2 := cell_at rowx 2
                have x3 := cell_at rowx 3
                have y0 := cell_at rowy 0
                have y1 := cell_at rowy 1
                simp only [List.getElem?_toArray, List.getElem?_cons_zero, List.getElem?_cons_succ] at y0 y1 x0 x1 x2 x3
                rw [hda2] at y1
                have HS : Hid (OfQ X Y rb2 ro2 k p rnm rfs.length rd.c f.nm wr.drew) := Lib.hid ⟨⟨x0, x1, x2, x3⟩, y0, y1, z0⟩
                have CO0 := HOff.out k f hf wr.drew hbk.drew
                dsimp only [Pr.val] at CO0
                have CO := Lib.hid CO0
                have HBd : Hid (Below w6.heap.size w6 wr.drew) := Lib.hid HBk.out.drew
                have HLk := Lib.hid hlt
                have p3 : (k : Int) < (rfs.length : Int) := by omega
                generalize f.nm = fnm at *
                clear hrow2 hf hrb2 CO0 hbk rowx rowy hlt z0 x0 x1 x2 x3 y0 y1
                rw [hda2]
                go_wp2_with fail
                refine wp_region_L (l := 14) (S := (OfQ X Y rb2 ro2 k p rnm rfs.length rd.c fnm)) (by kernel_rfl) ?_ (fun hHeld => ?_)
                · ((try dsimp only); (exact HS.out))
                refine wpAnyL_take (i := 0) (oi := _) (v := ?v14) rfl (by kernel_rfl) (fun _ _ _ h => h) (by assumption) (Or.inl ⟨by kernel_rfl, ?y14⟩) ?r14
                case y14 => (intro w hSw; (try dsimp only at hSw); go_simp; all_goals with_reducible rfl)
                try simp only [List.getElem_toArray, List.getElem_cons_zero, List.getElem_cons_succ, Act.put, List.setIfInBounds_toArray, List.set_cons_zero, List.set_cons_succ]
                refine wpAnyL_take (i := 1) (oi := _) (v := ?v15) rfl (by kernel_rfl) (fun _ _ _ h => h) (by assumption) (Or.inl ⟨by kernel_rfl, ?y15⟩) ?r15
                case y15 => (intro w hSw; (try dsimp only at hSw); go_simp; all_goals with_reducible rfl)
                try simp only [List.getElem_toArray, List.getElem_cons_zero, List.getElem_cons_succ, Act.put, List.setIfInBounds_toArray, List.set_cons_zero, List.set_cons_succ]
                refine wpAnyL_take (i := 2) (oi := _) (v := ?v16) rfl (by kernel_rfl) (fun _ _ _ h => h) (by assumption) (Or.inl ⟨by kernel_rfl, ?y16⟩) ?r16
                case y16 => (intro w hSw; (try dsimp only at hSw); go_simp; all_goals with_reducible rfl)
                try simp only [List.getElem_toArray, List.getElem_cons_zero, List.getElem_cons_succ, Act.put, List.setIfInBounds_toArray, List.set_cons_zero, List.set_cons_succ]
                refine wpAnyL_take (i := 3) (oi := _) (v := ?v17) rfl (by kernel_rfl) (fun _ _ _ h => h) (by assumption) (Or.inl ⟨by kernel_rfl, ?y17⟩) ?r17
                case y17 => (intro w hSw; (try dsimp only at hSw); go_simp; all_goals with_reducible rfl)
                try simp only [List.getElem_toArray, List.getElem_cons_zero, List.getElem_cons_succ, Act.put, List.setIfInBounds_toArray, List.set_cons_zero, List.set_cons_succ]
                refine wpAnyL_take (i := 4) (oi := _) (v := ?v18) rfl (by kernel_rfl) (fun _ _ _ h => h) (by assumption) (Or.inl ⟨by kernel_rfl, ?y18⟩) ?r18
                case y18 => (intro w hSw; (try dsimp only at hSw); go_simp; all_goals with_reducible rfl)
                try simp only [List.getElem_toArray, List.getElem_cons_zero, List.getElem_cons_succ, Act.put, List.setIfInBounds_toArray, List.set_cons_zero, List.set_cons_succ]
                refine wpAnyL_take (i := 5) (oi := _) (v := ?v19) rfl (by kernel_rfl) (fun _ _ _ h => h) (by assumption) (Or.inl ⟨by kernel_rfl, ?y19⟩) ?r19
                case y19 => (intro w hSw; (try dsimp only at hSw); go_simp; all_goals with_reducible rfl)
                try simp only [List.getElem_toArray, List.getElem_cons_zero, List.getElem_cons_succ, Act.put, List.setIfInBounds_toArray, List.set_cons_zero, List.set_cons_succ]
                refine wpAnyL_take (i := 6) (oi := _) (v := ?v20) rfl (by kernel_rfl) (fun _ _ _ h => h) (by assumption) (Or.inl ⟨by kernel_rfl, ?y20⟩) ?r20
                case y20 => (intro w hSw; (try dsimp only at hSw); go_simp; all_goals with_reducible rfl)
                try simp only [List.getElem_toArray, List.getElem_cons_zero, List.getElem_cons_succ, Act.put, List.setIfInBounds_toArray, List.set_cons_zero, List.set_cons_succ]
                refine wpAnyL_take (i := 7) (oi := _) (v := ?v21) rfl (by kernel_rfl) (fun _ _ _ h => h) (by assumption) (Or.inl ⟨by kernel_rfl, ?y21⟩) ?r21
                case y21 => (intro w hSw; (try dsimp only at hSw); go_simp; all_goals with_reducible rfl)
                try simp only [List.getElem_toArray, List.getElem_cons_zero, List.getElem_cons_succ, Act.put, List.setIfInBounds_toArray, List.set_cons_zero, List.set_cons_succ]
                refine wpAnyL_take (i := 8) (oi := _) (v := ?v22) rfl (by kernel_rfl) (fun _ _ _ h => h) (by assumption) (Or.inl ⟨by kernel_rfl, ?y22⟩) ?r22
                case y22 => (intro w hSw; (try dsimp only at hSw); go_simp; all_goals with_reducible rfl)
                try simp only [List.getElem_toArray, List.getElem_cons_zero, List.getElem_cons_succ, Act.put, List.setIfInBounds_toArray, List.set_cons_zero, List.set_cons_succ]
                refine wpAnyL_step (j := 9) (o := _) (by kernel_rfl) rfl (fun K hK => ?_)
                (go_simp; go_at_call 21; with_reducible refine CO.out.mono ?_; rintro e w2 ⟨rfl, hb⟩; have HS2 : Hid (OfQ X Y rb2 ro2 k p rnm rfs.length rd.c fnm w2) := Lib.hid (OfQ.below HS.out hb); have HBd2 : Hid (Below w6.heap.size w6 w2) := Lib.hid (HBd.out.trans (hb.mono HBd.out.size)); clear hb)
                refine hK _ _ ?_ (fun hHeld => ?_)
                · ((try dsimp only); (exact HS2.out))
                clear hK K
                try simp only [List.getElem_toArray, List.getElem_cons_zero, List.getElem_cons_succ, Act.put, List.setIfInBounds_toArray, List.set_cons_zero, List.set_cons_succ]
                refine wpAnyL_take (i := 10) (oi := _) (v := ?v24) rfl (by kernel_rfl) (fun _ _ _ h => h) (by assumption) (Or.inl ⟨by kernel_rfl, ?y24⟩) ?r24
                case y24 => (intro w hSw; (try dsimp only at hSw); go_simp; all_goals with_reducible rfl)
                try simp only [List.getElem_toArray, List.getElem_cons_zero, List.getElem_cons_succ, Act.put, List.setIfInBounds_toArray, List.set_cons_zero, List.set_cons_succ]
                refine wpAnyL_take (i := 11) (oi := _) (v := ?v25) rfl (by kernel_rfl) (fun _ _ _ h => h) (by assumption) (Or.inl ⟨by kernel_rfl, ?y25⟩) ?r25
                case y25 => (intro w hSw; (try dsimp only at hSw); go_simp; all_goals with_reducible rfl)
                try simp only [List.getElem_toArray, List.getElem_cons_zero, List.getElem_cons_succ, Act.put, List.setIfInBounds_toArray, List.set_cons_zero, List.set_cons_succ]
                refine wpAnyL_take (i := 12) (oi := _) (v := ?v26) rfl (by kernel_rfl) (fun _ _ _ h => h) (by assumption) (Or.inl ⟨by kernel_rfl, ?y26⟩) ?r26
                case y26 => (intro w hSw; (try dsimp only at hSw); go_simp; all_goals with_reducible rfl)
                try simp only [List.getElem_toArray, List.getElem_cons_zero, List.getElem_cons_succ, Act.put, List.setIfInBounds_toArray, List.set_cons_zero, List.set_cons_succ]
                refine wpAnyL_take (i := 13) (oi := _) (v := ?v27) rfl (by kernel_rfl) (fun _ _ _ h => h) (by assumption) (Or.inl ⟨by kernel_rfl, ?y27⟩) ?r27
                case y27 => (intro w hSw; (try dsimp only at hSw); go_simp; all_goals with_reducible rfl)
                try simp only [List.getElem_toArray, List.getElem_cons_zero, List.getElem_cons_succ, Act.put, List.setIfInBounds_toArray, List.set_cons_zero, List.set_cons_succ]
                refine wpAnyL_last (j := 14) (o := _) (by kernel_rfl) rfl (by rfl) (by kernel_rfl) (fun K hK => ?_)
                go_simp
                (refine hK _ _ ?_; clear hK K)
                try simp only [List.getElem_toArray, List.getElem_cons_zero, List.getElem_cons_succ, Act.put, List.setIfInBounds_toArray, List.set_cons_zero, List.set_cons_succ]
                clear hHeld HS HS2 CO HBd
                have d5 : ((k : Int) == (k : Int)) = true := by simp
                go_wp2_with fail
                go_roundw
                case rel => exact ⟨k + 1, by go_num, by have := HLk.out; omega, HBd2⟩
                case measure => have := HLk.out; simp [intOf]; omega
              · obtain rfl : k = rfs.length := by omega
                have HBe : Hid (Below w1.heap.size w1 wr) := Lib.hid (HB6.out _ HBk.out)
                clear hlt
                go_wp2_with fail
                go_roundw
                case rel => exact ⟨i + 1, by go_num, by have := HLt.out; omega, HBe⟩
                case measure => have := HLt.out; simp [intOf]; omega
          · obtain rfl : i = p.rs.length := by omega
            clear hlt
            go_wp2_with fail
            refine (alive07_any wr (HG.out _ HBwr.out)).mono ?_
            rintro e w99 ⟨rfl, hb⟩
            have HBz := Lib.hid ((HBw.out _ HBwr.out).trans (hb.mono (HBw.out _ HBwr.out).size))
            clear hb
            go_wp2_with fail
            go_ret
            exact ⟨rfl, HBz.out⟩
end Go.Proofs.YtkklogikakcanaaDoor
