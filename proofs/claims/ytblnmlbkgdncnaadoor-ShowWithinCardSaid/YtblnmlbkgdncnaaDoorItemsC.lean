/-
  show.Items: how many items a program has.
-/
import Derived.Test.YtblnmlbkgdncnaaDoorItemsB
import Derived.Test.YtblnmlbkgdncnaaDoorTreeL
import Derived.Laws.EntriesVeiled
set_option linter.unusedVariables false
set_option linter.unusedSimpArgs false
namespace Go.Proofs.YtblnmlbkgdncnaaDoor
open Go.RowKit

set_option maxHeartbeats 8000000 in
set_option maxRecDepth 100000 in
theorem sitems_any (p : Pr) (w : World) (hI : PrIn w w.heap.size p) (hsm : itemsOf p ≤ 1000000000) :
    Calls Tryd.prog 13 #[p.val] w fun e w' => e = .returned (.int .i64 (itemsOf p)) ∧ Below w.heap.size w w' := by
  have hmf : ∀ (fn : Fn) (first cap : Array Value) (w : World), (Instr.makeFunc fn first cap).run Tryd.prog w = .ok (.func fn first cap) w := fun _ _ _ _ => rfl
  obtain ⟨B, hB⟩ : ∃ B, w.heap.size = B := ⟨_, rfl⟩
  obtain ⟨w1, hw1⟩ : ∃ w1, w.alloc (prObj p) = w1 := ⟨_, rfl⟩
  obtain ⟨w2, hw2⟩ : ∃ w2, w1.alloc (.cells #[.int .i64 0] 3 (0, 0)) = w2 := ⟨_, rfl⟩
  obtain ⟨w3, hw3⟩ : ∃ w3, w2.alloc (.cells #[.func (.func 28) #[] #[.pointer (some ⟨B + 1, 0, none⟩), .pointer (some ⟨B + 1 + 1, 0, none⟩)]] 69 (0, 0)) = w3 := ⟨_, rfl⟩
  obtain ⟨w4, hw4⟩ : ∃ w4, w3.alloc (.cells #[.func (.func 29) #[] #[.pointer (some ⟨B + 1, 0, none⟩), .pointer (some ⟨B + 1 + 1, 0, none⟩), .pointer (some ⟨B + 1 + 1 + 1, 0, none⟩)]] 81 (0, 0)) = w4 := ⟨_, rfl⟩
  have hs1 : w1.heap.size = B + 1 := by rw [← hw1, ← hB]; exact World.size_alloc _ _
  have hs2 : w2.heap.size = B + 1 + 1 := by rw [← hw2, ← hs1]; exact World.size_alloc _ _
  have hs3 : w3.heap.size = B + 1 + 1 + 1 := by rw [← hw3, ← hs2]; exact World.size_alloc _ _
  have hb1 : Below w.heap.size w w1 := by rw [← hw1]; exact (Below.refl _ _).alloc (Nat.le_refl _) _
  have hb2 : Below w1.heap.size w1 w2 := by rw [← hw2]; exact (Below.refl _ _).alloc (Nat.le_refl _) _
  have hb3 : Below w2.heap.size w2 w3 := by rw [← hw3]; exact (Below.refl _ _).alloc (Nat.le_refl _) _
  have hb4 : Below w3.heap.size w3 w4 := by rw [← hw4]; exact (Below.refl _ _).alloc (Nat.le_refl _) _
  have hb34 : Below w2.heap.size w2 w4 := hb3.trans (hb4.mono hb3.size)
  have hb24 : Below w1.heap.size w1 w4 := hb2.trans (hb34.mono hb2.size)
  have hb14 : Below w.heap.size w w4 := hb1.trans (hb24.mono hb1.size)
  have x4 : w4.heap[B]? = some (prObj p) := (hb24.block B (by omega)).trans (by rw [← hw1, ← hB]; exact heap_alloc_new w _)
  have n4 : NAt (B + 1) 0 w4 := (hb34.block (B + 1) (by omega)).trans (by rw [← hw2, ← hs1]; exact heap_alloc_new w1 _)
  have e4 : EAt (B + 1) (B + 1 + 1) w4 := (hb4.block (B + 1 + 1) (by omega)).trans (by rw [← hw3, ← hs2]; exact heap_alloc_new w2 _)
  have l4 : LAt (B + 1) (B + 1 + 1) (B + 1 + 1 + 1) w4 := by rw [← hw4]; unfold LAt; rw [← hs3]; exact heap_alloc_new w3 _
  have hle4 : B ≤ w4.heap.size := by have := hb14.size; omega
  have HC4 : Hid (CtS B (B + 1) (B + 1 + 1) (B + 1 + 1 + 1) 0 w4) := Lib.hid ⟨⟨n4, e4, by omega, by omega, hle4⟩, l4, by omega⟩
  have HI : Hid (PrIn w4 B p) := Lib.hid (by rw [← hB]; exact hI.keep hb14 (Nat.le_refl _))
  have HB4 := Lib.hid hb14
  have HBs := Lib.hid hB
  have HBl : Hid (∀ W, KpN (B + 1) w4 W → Below B w4 W) := Lib.hid fun W hk => HC4.out.ct.blw hk
  have HRow : Hid (∀ W, KpN (B + 1) w4 W → W.heap[B]? = some (prObj p)) := Lib.hid fun W hk => (hk.block B (Array.getElem?_eq_some_iff.1 x4).1 (by omega)).trans x4
  have HNm : Hid (w.heap.size = B ∧ (((w.alloc (prObj p)).alloc (.cells #[.int .i64 0] 3 (0, 0))).alloc (.cells #[.func (.func 28) #[] #[.pointer (some ⟨B + 1, 0, none⟩), .pointer (some ⟨B + 1 + 1, 0, none⟩)]] 69 (0, 0))).alloc (.cells #[.func (.func 29) #[] #[.pointer (some ⟨B + 1, 0, none⟩), .pointer (some ⟨B + 1 + 1, 0, none⟩), .pointer (some ⟨B + 1 + 1 + 1, 0, none⟩)]] 81 (0, 0)) = w4) := Lib.hid ⟨hB, by rw [hw1, hw2, hw3, hw4]⟩
  have hfl : p.fs.length ≤ 140737488355328 := hI.flen
  have htl : p.ts.length ≤ 140737488355328 := hI.tlen
  obtain ⟨FS, hFS⟩ : ∃ FS, (p.fs.map fun f => stCounts f.body).sum = FS := ⟨_, rfl⟩
  obtain ⟨TS, hTS⟩ : ∃ TS, (p.ts.map fun t => stCounts t.l).sum = TS := ⟨_, rfl⟩
  have HS0 : Hid (((p.fs.drop 0).map fun f => stCounts f.body).sum = FS) := Lib.hid (by rw [List.drop_zero]; exact hFS)
  have HT0 : Hid (((p.ts.drop 0).map fun t => stCounts t.l).sum = TS) := Lib.hid (by rw [List.drop_zero]; exact hTS)
  have hit : itemsOf p = FS + TS := by unfold itemsOf; rw [hFS, hTS]
  rw [hit] at hsm ⊢
  have HSm := Lib.hid hsm
  clear hw1 hw2 hw3 hw4 hs1 hs2 hs3 hb1 hb2 hb3 hb4 hb34 hb24 hb14 x4 n4 e4 l4 hle4 hI hFS hTS hit hsm
  go_enter Tryd.func13, Tryd.ntmps13
  go_wp2_with fail
  simp only [HNm.out.2]
  clear hB
  go_loopw [15] (fun ii wr => ∃ (j m : Nat), ii = .int .i64 j ∧ j ≤ p.fs.length ∧ Hid (CtS B (B + 1) (B + 1 + 1) (B + 1 + 1 + 1) (m : Int) wr) ∧ Hid (KpN (B + 1) w4 wr) ∧ Hid (m + ((p.fs.drop j).map fun f => stCounts f.body).sum = FS)) (fun ii _ => p.fs.length - (intOf ii).toNat)
  case atStart => exact ⟨0, 0, rfl, Nat.zero_le _, HC4, Lib.hid (Kept.refl _ _), Lib.hid (by rw [HS0.out]; omega)⟩
  case round =>
    obtain ⟨j, m, rfl, hj, hT, hK, hM⟩ := hrel
    clear HC4 HS0
    have p2 : (0 : Int) ≤ (j : Int) := Int.natCast_nonneg _
    by_cases hlt : j < p.fs.length
    · obtain ⟨s, hs⟩ : ∃ s, p.fs[j]? = some s := ⟨_, List.getElem?_eq_getElem hlt⟩
      have hdrop : p.fs.drop j = s :: p.fs.drop (j + 1) := by
        have := List.drop_eq_getElem_cons hlt
        rw [List.getElem?_eq_getElem hlt] at hs
        injection hs with hs
        rw [this, hs]
      have hmem := List.mem_of_getElem? hs
      have hkeep := HBl.out _ hK.out
      have hIr := HI.out.keep hkeep (Nat.le_refl B)
      obtain ⟨rb, ro, hda, hrb, hrow⟩ := hIr.frow (by intro h0; rw [h0] at hlt; simp at hlt)
      obtain ⟨z0, z1, z2, z3, z4, z5⟩ := hrow j s hs
      have hsI := hIr.fsub s hmem
      have hM1 := hM.out
      rw [hdrop, List.map_cons, List.sum_cons] at hM1
      obtain ⟨nm, pd, ps, ft, bd, body⟩ := s
      dsimp only at z0 z1 z2 z3 z4 z5 hsI hM1
      have hb6 := (Below.refl wr.heap.size wr).alloc (Nat.le_refl _) (.cells #[.string ⟨nm.toArray⟩, .slice pd.a ps.length pd.c, .int .u8 ft.k, .string ⟨ft.nm.toArray⟩, .int .i64 ft.n, .slice bd.a body.length bd.c] 79 (0, 0))
      have x6 : (wr.alloc (.cells #[.string ⟨nm.toArray⟩, .slice pd.a ps.length pd.c, .int .u8 ft.k, .string ⟨ft.nm.toArray⟩, .int .i64 ft.n, .slice bd.a body.length bd.c] 79 (0, 0))).heap[wr.heap.size]? = _ := heap_alloc_new wr _
      have HT6 := Lib.hid (hT.out.below hb6)
      have HK6 := Lib.hid (hK.out.trans (Kept.of_below hb6))
      have g0 := cell_at HT6.out.l 0
      have r5 := cell_at x6 5
      simp only [List.getElem?_toArray, List.getElem?_cons_zero, List.getElem?_cons_succ] at g0 r5
      have C := sitemL_any B (B + 1) (B + 1 + 1) (B + 1 + 1 + 1) _ body (Nat.le_refl _) bd (m : Int) _ HT6.out (hsI.body.keep (hb6.mono hT.out.ct.hB) (Nat.le_refl B)) (Int.natCast_nonneg _) (by have := HSm.out; omega)
      have HM6 : Hid (m + stCounts body + ((p.fs.drop (j + 1)).map fun f => stCounts f.body).sum = FS) := Lib.hid (by omega)
      have p1 : (j : Int) < (p.fs.length : Int) := by omega
      clear hb6 x6 hrow hdrop hs hmem hkeep hIr hsI hM hM1 hT hK hrb
      rw [hda]
      go_wp2_with fail
      refine C.mono ?_
      rintro e w7 ⟨rfl, hn7, hk7⟩
      have HT7 : Hid (CtS B (B + 1) (B + 1 + 1) (B + 1 + 1 + 1) ((m + stCounts body : Nat) : Int) w7) := Lib.hid (by push_cast; exact HT6.out.kept hk7 hn7)
      have HK7 := Lib.hid (HK6.out.trans hk7)
      clear hn7 hk7 C z0 z1 z2 z3 z4 z5 g0 r5 HT6 HK6
      go_wp2_with fail
      go_roundw
      case rel => exact ⟨j + 1, _, by go_num, by omega, HT7, HK7, HM6⟩
      case measure => simp [intOf]; omega
    · obtain rfl : j = p.fs.length := by omega
      have HZ : Hid (m = FS) := Lib.hid (by have h := hM.out; rw [List.drop_length] at h; simpa using h)
      obtain rfl := HZ.out
      have row := HRow.out _ hK.out
      have q3 := cell_at row 3
      simp only [List.getElem?_toArray, List.getElem?_cons_zero, List.getElem?_cons_succ] at q3
      have HTn := hT
      have HKn := hK
      clear row hM hT hK HZ
      go_wp2_with fail
      go_loopw [27] (fun ii wr => ∃ (j m2 : Nat), ii = .int .i64 j ∧ j ≤ p.ts.length ∧ Hid (CtS B (B + 1) (B + 1 + 1) (B + 1 + 1 + 1) ((m + m2 : Nat) : Int) wr) ∧ Hid (KpN (B + 1) w4 wr) ∧ Hid (m2 + ((p.ts.drop j).map fun t => stCounts t.l).sum = TS)) (fun ii _ => p.ts.length - (intOf ii).toNat)
      case atStart => exact ⟨0, 0, rfl, Nat.zero_le _, HTn, HKn, Lib.hid (by rw [HT0.out]; omega)⟩
      case round =>
        obtain ⟨j, m2, rfl, hj, hT, hK, hM⟩ := hrel
        clear HTn HKn HT0
        have p2 : (0 : Int) ≤ (j : Int) := Int.natCast_nonneg _
        by_cases hlt : j < p.ts.length
        · obtain ⟨s, hs⟩ : ∃ s, p.ts[j]? = some s := ⟨_, List.getElem?_eq_getElem hlt⟩
          have hdrop : p.ts.drop j = s :: p.ts.drop (j + 1) := by
            have := List.drop_eq_getElem_cons hlt
            rw [List.getElem?_eq_getElem hlt] at hs
            injection hs with hs
            rw [this, hs]
          have hmem := List.mem_of_getElem? hs
          have hkeep := HBl.out _ hK.out
          have hIr := HI.out.keep hkeep (Nat.le_refl B)
          obtain ⟨rb, ro, hda, hrb, hrow⟩ := hIr.trow (by intro h0; rw [h0] at hlt; simp at hlt)
          obtain ⟨z0⟩ := hrow j s hs
          have hsI := hIr.tsub s hmem
          have hM1 := hM.out
          rw [hdrop, List.map_cons, List.sum_cons] at hM1
          obtain ⟨td, tl⟩ := s
          dsimp only at z0 hsI hM1
          rw [Nat.mul_one] at z0
          have g0 := cell_at hT.out.l 0
          simp only [List.getElem?_toArray, List.getElem?_cons_zero, List.getElem?_cons_succ] at g0
          have C := sitemL_any B (B + 1) (B + 1 + 1) (B + 1 + 1 + 1) _ tl (Nat.le_refl _) td ((m + m2 : Nat) : Int) wr hT.out hsI (Int.natCast_nonneg _) (by have := HSm.out; omega)
          have HM6 : Hid (m2 + stCounts tl + ((p.ts.drop (j + 1)).map fun t => stCounts t.l).sum = TS) := Lib.hid (by omega)
          have HT6 := hT
          have HK6 := hK
          have p1 : (j : Int) < (p.ts.length : Int) := by omega
          clear hrow hdrop hs hmem hkeep hIr hsI hM hM1 hT hK hrb
          rw [hda]
          go_wp2_with fail
          refine C.mono ?_
          rintro e w7 ⟨rfl, hn7, hk7⟩
          have HT7 : Hid (CtS B (B + 1) (B + 1 + 1) (B + 1 + 1 + 1) ((m + (m2 + stCounts tl) : Nat) : Int) w7) := Lib.hid (by rw [show ((m + (m2 + stCounts tl) : Nat) : Int) = ((m + m2 : Nat) : Int) + (stCounts tl : Int) by push_cast; omega]; exact HT6.out.kept hk7 hn7)
          have HK7 := Lib.hid (HK6.out.trans hk7)
          clear hn7 hk7 C z0 g0 HT6 HK6
          go_wp2_with fail
          go_roundw
          case rel => exact ⟨j + 1, _, by go_num, by omega, HT7, HK7, HM6⟩
          case measure => simp [intOf]; omega
        · obtain rfl : j = p.ts.length := by omega
          have HZ : Hid (m2 = TS) := Lib.hid (by have h := hM.out; rw [List.drop_length] at h; simpa using h)
          obtain rfl := HZ.out
          have c0 := cell_at hT.out.ct.n 0
          simp only [List.getElem?_toArray, List.getElem?_cons_zero, List.getElem?_cons_succ] at c0
          have HFn : Hid (Below w.heap.size w wr) := Lib.hid (HB4.out.trans (hK.out.below HB4.out.size (fun k hk => by rw [hk, HBs.out]; omega)))
          clear hM hT hK HZ
          go_wp2_with fail
          go_ret
          exact ⟨rfl, HFn.out⟩
end Go.Proofs.YtblnmlbkgdncnaaDoor
