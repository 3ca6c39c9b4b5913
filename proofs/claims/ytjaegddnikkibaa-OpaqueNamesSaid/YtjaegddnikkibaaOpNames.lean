/-
  OpaqueNames walked.
-/
import Derived.Test.YtjaegddnikkibaaOpLives
set_option linter.unusedVariables false
set_option linter.unusedSimpArgs false
namespace Go.Proofs.Ytjaegddnikkibaa
open Go.RowKit Go.Sort Go.Maps

set_option maxHeartbeats 4000000 in
set_option maxRecDepth 100000 in
theorem opaqueNames_walk (w : World) : Calls Try.prog 6 #[] w fun e w' => e = .returned (.bool true) ∧ Below w.heap.size w w' := by
  have HC : Hid (Below w.heap.size w w) := Lib.hid (Below.refl _ _)
  have HQ : Hid (Below w.heap.size w w) := HC
  go_enter Try.func6, Try.ntmps6
  go_wp2_with fail
  refine (event_any 3 1 5 _).mono ?_
  rintro e w1 ⟨rfl, hb⟩
  have HC : Hid (Below w.heap.size w w1) := Lib.hid (HC.out.trans (hb.mono HC.out.size))
  have HQ : Hid (Below w.heap.size w w1) := Lib.hid hb
  clear hb
  go_wp2_with fail
  refine (did_any 0 2 0 1 (some ⟨w1.heap.size, 0, none⟩) 1 1 _).mono ?_
  rintro e w2 ⟨rfl, hb2⟩
  have HEV : Hid (EvsAt w2 w2.heap.size (some ⟨w1.heap.size, 0, none⟩) [⟨0, 3, 1, 5⟩]) := Lib.hid ((evsAt_one (evAt_new w1 0 3 1 5 _)).keep hb2 hb2.size)
  have HC : Hid (Below w.heap.size w w2) := Lib.hid ((HC.out.alloc HC.out.size _).trans (hb2.mono (by have := HC.out.size; simp; omega)))
  clear hb2
  obtain ⟨BA, hB⟩ : ∃ B, w1.heap.size = B := ⟨_, rfl⟩
  have HEA : Hid (EvsAt w2 w2.heap.size (some ⟨BA, 0, none⟩) [⟨0, 3, 1, 5⟩]) := Lib.hid (by rw [← hB]; exact HEV.out)
  rw [hB]
  clear hB HEV
  obtain ⟨XA, hX⟩ : ∃ X, w2.heap.size = X := ⟨_, rfl⟩
  have HL0 := Lib.hid (livS_new w2 0 1 0 2 0 1 true BA 1 35)
  obtain ⟨wpA, hwp⟩ : ∃ wp, w2.alloc (.cells #[.int .i64 0, .int .u8 1, .int .i64 0, .int .i64 2, .int .i64 0, .int .i64 1, .bool true, .slice (some ⟨BA, 0, none⟩) 1 1] 35 (0, 0)) = wp := ⟨_, rfl⟩
  have HLA : Hid (LivS wpA XA 0 1 0 2 0 1 true BA 1 wpA) := Lib.hid (by rw [← hwp, ← hX]; exact HL0.out)
  have HC : Hid (Below w.heap.size w wpA) := Lib.hid (by rw [← hwp]; exact HC.out.alloc HC.out.size _)
  have HPA : Hid (Below w2.heap.size w2 wpA) := Lib.hid (by rw [← hwp]; exact (Below.refl _ _).alloc (Nat.le_refl _) _)
  have HEA : Hid (∀ W, Below wpA.heap.size wpA W → EvsAt W W.heap.size (some ⟨BA, 0, none⟩) [⟨0, 3, 1, 5⟩]) := Lib.hid (fun W h => (HEA.out.keep HPA.out HPA.out.size).keep h h.size)
  clear HL0
  have HSA := livS_hid HLA.out (Below.refl _ _)
  go_wp2_with fail
  clear hwp hX
  refine wp_region_L (l := 10) (S := (LivS wpA XA 0 1 0 2 0 1 true BA 1)) (by kernel_rfl) ?_ (fun hHeld => ?_)
  · ((try dsimp only); (exact HSA.out _ (Below.refl _ _).drew))
  refine wpAnyL_take (i := 0) (oi := _) (v := ?v1) rfl (by kernel_rfl) (fun _ _ _ h => h) (by assumption) (Or.inl ⟨by kernel_rfl, ?y1⟩) ?r1
  case y1 => (intro w hSw; (try dsimp only at hSw); go_simp; all_goals with_reducible rfl)
  try simp only [Act.put, List.setIfInBounds_toArray, List.set_cons_zero, List.set_cons_succ]
  refine wpAnyL_step (j := 1) (o := _) (by kernel_rfl) rfl (fun K hK => ?_)
  (go_simp; go_at_call 24; refine (event_any 2 1 0 _).mono ?_; rintro e w3 ⟨rfl, hb3⟩; have hs3 := Nat.le_trans hHeld.1.size hb3.size)
  refine hK _ _ ?_ (fun hHeld => ?_)
  · ((try dsimp only); (exact HSA.out _ (hHeld.1.trans (hb3.mono hHeld.1.size))))
  clear hK K
  try simp only [Act.put, List.setIfInBounds_toArray, List.set_cons_zero, List.set_cons_succ]
  refine wpAnyL_step (j := 2) (o := _) (by kernel_rfl) rfl (fun K hK => ?_)
  go_simp
  refine hK _ _ ?_ (fun hHeld => ?_)
  · ((try dsimp only); (exact HSA.out _ (hHeld.1.alloc hHeld.1.size _)))
  clear hK K
  try simp only [Act.put, List.setIfInBounds_toArray, List.set_cons_zero, List.set_cons_succ]
  refine wpAnyL_step (j := 3) (o := _) (by kernel_rfl) rfl (fun K hK => ?_)
  (go_simp; go_at_call 25; refine (gave_any 1 3 5 0 w3.heap.size ⟨0, 2, 1, 0⟩ _ (evAt_new w3 0 2 1 0 _) (by simp)).mono ?_; rintro e w4 ⟨rfl, hE4, hM4⟩)
  refine hK _ _ ?_ (fun hHeld => ?_)
  · ((try dsimp only); (exact HSA.out _ (hHeld.1.trans ((hM4.below (by simp)).mono hs3))))
  clear hK K
  try simp only [Act.put, List.setIfInBounds_toArray, List.set_cons_zero, List.set_cons_succ]
  refine wpAnyL_step (j := 4) (o := _) (by kernel_rfl) rfl (fun K hK => ?_)
  go_simp
  refine hK _ _ ?_ (fun hHeld => ?_)
  · ((try dsimp only); (exact HSA.out _ (hHeld.1.alloc hHeld.1.size _)))
  clear hK K
  try simp only [Act.put, List.setIfInBounds_toArray, List.set_cons_zero, List.set_cons_succ]
  refine wpAnyL_step (j := 5) (o := _) (by kernel_rfl) rfl (fun K hK => ?_)
  (go_simp; go_at_call 17; refine (ocheck_is (b := w4.heap.size) (c := 2) [⟨0, 1, 0, 2, 0, 1, true, some ⟨BA, 0, none⟩, 1, [⟨0, 3, 1, 5⟩]⟩, ⟨1, 2, 3, 5, 0, 0, false, some ⟨w3.heap.size, 0, none⟩, 1, [⟨1, 2, 1, 0⟩]⟩] 1 17 (by kernel_rfl) (by simp) (by kernel_rfl) (heap_alloc_new w4 _) (mem_two (HEA.out _ hHeld.1) ((evsAt_one hE4).keep ((Below.refl _ _).alloc (Nat.le_refl _) _) (by simp)))).mono ?_; rintro e w5 ⟨rfl, hb5⟩)
  refine hK _ _ ?_ (fun hHeld => ?_)
  · ((try dsimp only); (exact HSA.out _ (hHeld.1.trans (hb5.mono hHeld.1.size))))
  clear hK K
  try simp only [Act.put, List.setIfInBounds_toArray, List.set_cons_zero, List.set_cons_succ]
  refine wpAnyL_take (i := 6) (oi := _) (v := ?v7) rfl (by kernel_rfl) (fun _ _ _ h => h) (by assumption) (Or.inl ⟨by kernel_rfl, ?y7⟩) ?r7
  case y7 => (intro w hSw; (try dsimp only at hSw); go_simp; all_goals with_reducible rfl)
  try simp only [Act.put, List.setIfInBounds_toArray, List.set_cons_zero, List.set_cons_succ]
  refine wpAnyL_take (i := 7) (oi := _) (v := ?v8) rfl (by kernel_rfl) (fun _ _ _ h => h) (by assumption) (Or.inl ⟨by kernel_rfl, ?y8⟩) ?r8
  case y8 => (intro w hSw; (try dsimp only at hSw); go_simp; all_goals with_reducible rfl)
  try simp only [Act.put, List.setIfInBounds_toArray, List.set_cons_zero, List.set_cons_succ]
  refine wpAnyL_take (i := 8) (oi := _) (v := ?v9) rfl (by kernel_rfl) (fun _ _ _ h => h) (by assumption) (Or.inl ⟨by kernel_rfl, ?y9⟩) ?r9
  case y9 => (intro w hSw; (try dsimp only at hSw); go_simp; all_goals with_reducible rfl)
  try simp only [Act.put, List.setIfInBounds_toArray, List.set_cons_zero, List.set_cons_succ]
  refine wpAnyL_take (i := 9) (oi := _) (v := ?v10) rfl (by kernel_rfl) (fun _ _ _ h => h) (by assumption) (Or.inl ⟨by kernel_rfl, ?y10⟩) ?r10
  case y10 => (intro w hSw; (try dsimp only at hSw); go_simp; all_goals with_reducible rfl)
  try simp only [Act.put, List.setIfInBounds_toArray, List.set_cons_zero, List.set_cons_succ]
  refine wpAnyL_last (j := 10) (o := _) (by kernel_rfl) rfl (by rfl) (by kernel_rfl) (fun K hK => ?_)
  go_simp
  (refine hK _ _ ?_; clear hK K)
  try simp only [Act.put, List.setIfInBounds_toArray, List.set_cons_zero, List.set_cons_succ]
  have HC : Hid (Below w.heap.size w w5) := Lib.hid (HC.out.trans (hHeld.1.mono HC.out.size))
  clear hHeld hb3 hs3 hE4 hM4 hb5 HSA HEA HLA HPA
  go_wp2_with fail
  refine (event_any 6 40 2 _).mono ?_
  rintro e w6 ⟨rfl, hb⟩
  have HC : Hid (Below w.heap.size w w6) := Lib.hid (HC.out.trans (hb.mono HC.out.size))
  have HQ : Hid (Below w5.heap.size w5 w6) := Lib.hid hb
  clear hb
  go_wp2_with fail
  refine (event_any 5 41 7 _).mono ?_
  rintro e w7 ⟨rfl, hb⟩
  have HC : Hid (Below w.heap.size w w7) := Lib.hid (HC.out.trans (hb.mono HC.out.size))
  have HQ : Hid (Below w6.heap.size w6 w7) := Lib.hid hb
  clear hb
  go_wp2_with fail
  refine (event_any 4 41 7 _).mono ?_
  rintro e w8 ⟨rfl, hb⟩
  have HC : Hid (Below w.heap.size w w8) := Lib.hid (HC.out.trans (hb.mono HC.out.size))
  have HQ : Hid (Below w7.heap.size w7 w8) := Lib.hid hb
  clear hb
  go_wp2_with fail
  refine (did_any 0 2 0 1 (some ⟨w8.heap.size, 0, none⟩) 3 3 _).mono ?_
  rintro e w9 ⟨rfl, hb2⟩
  have HEV : Hid (EvsAt w9 w9.heap.size (some ⟨w8.heap.size, 0, none⟩) [⟨0, 6, 40, 2⟩, ⟨0, 5, 41, 7⟩, ⟨0, 4, 41, 7⟩]) := Lib.hid ((evsAt_of (l := [⟨0, 6, 40, 2⟩, ⟨0, 5, 41, 7⟩, ⟨0, 4, 41, 7⟩]) (heap_alloc_new w8 _)).keep hb2 hb2.size)
  have HC : Hid (Below w.heap.size w w9) := Lib.hid ((HC.out.alloc HC.out.size _).trans (hb2.mono (by have := HC.out.size; simp; omega)))
  clear hb2
  obtain ⟨BM, hB⟩ : ∃ B, w8.heap.size = B := ⟨_, rfl⟩
  have HEM : Hid (EvsAt w9 w9.heap.size (some ⟨BM, 0, none⟩) [⟨0, 6, 40, 2⟩, ⟨0, 5, 41, 7⟩, ⟨0, 4, 41, 7⟩]) := Lib.hid (by rw [← hB]; exact HEV.out)
  rw [hB]
  clear hB HEV
  obtain ⟨XM, hX⟩ : ∃ X, w9.heap.size = X := ⟨_, rfl⟩
  have HL0 := Lib.hid (livS_new w9 0 1 0 2 0 1 true BM 3 35)
  obtain ⟨wpM, hwp⟩ : ∃ wp, w9.alloc (.cells #[.int .i64 0, .int .u8 1, .int .i64 0, .int .i64 2, .int .i64 0, .int .i64 1, .bool true, .slice (some ⟨BM, 0, none⟩) 3 3] 35 (0, 0)) = wp := ⟨_, rfl⟩
  have HLM : Hid (LivS wpM XM 0 1 0 2 0 1 true BM 3 wpM) := Lib.hid (by rw [← hwp, ← hX]; exact HL0.out)
  have HC : Hid (Below w.heap.size w wpM) := Lib.hid (by rw [← hwp]; exact HC.out.alloc HC.out.size _)
  have HPM : Hid (Below w9.heap.size w9 wpM) := Lib.hid (by rw [← hwp]; exact (Below.refl _ _).alloc (Nat.le_refl _) _)
  have HEM : Hid (∀ W, Below wpM.heap.size wpM W → EvsAt W W.heap.size (some ⟨BM, 0, none⟩) [⟨0, 6, 40, 2⟩, ⟨0, 5, 41, 7⟩, ⟨0, 4, 41, 7⟩]) := Lib.hid (fun W h => (HEM.out.keep HPM.out HPM.out.size).keep h h.size)
  clear HL0
  obtain ⟨-, a0, a1, a2, a3, a4, a5, a6, a7⟩ := id HLM.out
  go_wp2_with fail
  clear hwp hX a0 a1 a2 a3 a4 a5 a6 a7
  go_at_call 17
  refine (ocheck_is (b := wpM.heap.size) (c := 1) [⟨0, 1, 0, 2, 0, 1, true, some ⟨BM, 0, none⟩, 3, [⟨0, 6, 40, 2⟩, ⟨0, 5, 41, 7⟩, ⟨0, 4, 41, 7⟩]⟩] 0 0 (by kernel_rfl) (by simp) (by kernel_rfl) (heap_alloc_new wpM _) (mem_one (HEM.out _ ((Below.refl _ _).alloc (Nat.le_refl _) _)))).mono ?_
  rintro e w10 ⟨rfl, hb⟩
  have HQ : Hid (Below wpM.heap.size wpM w10) := Lib.hid (((Below.refl wpM.heap.size wpM).alloc (Nat.le_refl _) _).trans (hb.mono (by simp)))
  have HC : Hid (Below w.heap.size w w10) := Lib.hid (HC.out.trans (HQ.out.mono HC.out.size))
  clear hb
  obtain ⟨-, a0, a1, a2, a3, a4, a5, a6, a7⟩ := (livS_hid HLM.out HQ.out).out _ (Below.refl _ _)
  have HEM := Lib.hid (fun W (h : Below w10.heap.size w10 W) => HEM.out W (HQ.out.trans (h.mono HQ.out.size)))
  go_wp2_with fail
  clear a0 a1 a2 a3 a4 a5 a6 a7
  go_at_call 18
  refine (oown_is (b := w10.heap.size) (c := 1) [⟨0, 1, 0, 2, 0, 1, true, some ⟨BM, 0, none⟩, 3, [⟨0, 6, 40, 2⟩, ⟨0, 5, 41, 7⟩, ⟨0, 4, 41, 7⟩]⟩] 0 0 (by kernel_rfl) (by simp) (by kernel_rfl) (heap_alloc_new w10 _) (mem_one (HEM.out _ ((Below.refl _ _).alloc (Nat.le_refl _) _)))).mono ?_
  rintro e w11 ⟨rfl, hb⟩
  have HQ : Hid (Below w10.heap.size w10 w11) := Lib.hid (((Below.refl w10.heap.size w10).alloc (Nat.le_refl _) _).trans (hb.mono (by simp)))
  have HC : Hid (Below w.heap.size w w11) := Lib.hid (HC.out.trans (HQ.out.mono HC.out.size))
  clear hb
  clear HLM HEM HPM
  go_wp2_with fail
  refine (event_any 5 41 7 _).mono ?_
  rintro e w12 ⟨rfl, hb⟩
  have HC : Hid (Below w.heap.size w w12) := Lib.hid (HC.out.trans (hb.mono HC.out.size))
  have HQ : Hid (Below w11.heap.size w11 w12) := Lib.hid hb
  clear hb
  go_wp2_with fail
  refine (did_any 0 2 0 1 (some ⟨w12.heap.size, 0, none⟩) 1 1 _).mono ?_
  rintro e w13 ⟨rfl, hb2⟩
  have HEV : Hid (EvsAt w13 w13.heap.size (some ⟨w12.heap.size, 0, none⟩) [⟨0, 5, 41, 7⟩]) := Lib.hid ((evsAt_one (evAt_new w12 0 5 41 7 _)).keep hb2 hb2.size)
  have HC : Hid (Below w.heap.size w w13) := Lib.hid ((HC.out.alloc HC.out.size _).trans (hb2.mono (by have := HC.out.size; simp; omega)))
  clear hb2
  obtain ⟨BL, hB⟩ : ∃ B, w12.heap.size = B := ⟨_, rfl⟩
  have HEL : Hid (EvsAt w13 w13.heap.size (some ⟨BL, 0, none⟩) [⟨0, 5, 41, 7⟩]) := Lib.hid (by rw [← hB]; exact HEV.out)
  rw [hB]
  clear hB HEV
  obtain ⟨XL, hX⟩ : ∃ X, w13.heap.size = X := ⟨_, rfl⟩
  have HL0 := Lib.hid (livS_new w13 0 1 0 2 0 1 true BL 1 35)
  obtain ⟨wpL, hwp⟩ : ∃ wp, w13.alloc (.cells #[.int .i64 0, .int .u8 1, .int .i64 0, .int .i64 2, .int .i64 0, .int .i64 1, .bool true, .slice (some ⟨BL, 0, none⟩) 1 1] 35 (0, 0)) = wp := ⟨_, rfl⟩
  have HLL : Hid (LivS wpL XL 0 1 0 2 0 1 true BL 1 wpL) := Lib.hid (by rw [← hwp, ← hX]; exact HL0.out)
  have HC : Hid (Below w.heap.size w wpL) := Lib.hid (by rw [← hwp]; exact HC.out.alloc HC.out.size _)
  have HPL : Hid (Below w13.heap.size w13 wpL) := Lib.hid (by rw [← hwp]; exact (Below.refl _ _).alloc (Nat.le_refl _) _)
  have HEL : Hid (∀ W, Below wpL.heap.size wpL W → EvsAt W W.heap.size (some ⟨BL, 0, none⟩) [⟨0, 5, 41, 7⟩]) := Lib.hid (fun W h => (HEL.out.keep HPL.out HPL.out.size).keep h h.size)
  clear HL0
  obtain ⟨-, a0, a1, a2, a3, a4, a5, a6, a7⟩ := id HLL.out
  go_wp2_with fail
  clear hwp hX a0 a1 a2 a3 a4 a5 a6 a7
  go_at_call 17
  refine (ocheck_is (b := wpL.heap.size) (c := 1) [⟨0, 1, 0, 2, 0, 1, true, some ⟨BL, 0, none⟩, 1, [⟨0, 5, 41, 7⟩]⟩] 0 0 (by kernel_rfl) (by simp) (by kernel_rfl) (heap_alloc_new wpL _) (mem_one (HEL.out _ ((Below.refl _ _).alloc (Nat.le_refl _) _)))).mono ?_
  rintro e w14 ⟨rfl, hb⟩
  have HQ : Hid (Below wpL.heap.size wpL w14) := Lib.hid (((Below.refl wpL.heap.size wpL).alloc (Nat.le_refl _) _).trans (hb.mono (by simp)))
  have HC : Hid (Below w.heap.size w w14) := Lib.hid (HC.out.trans (HQ.out.mono HC.out.size))
  clear hb
  obtain ⟨-, a0, a1, a2, a3, a4, a5, a6, a7⟩ := (livS_hid HLL.out HQ.out).out _ (Below.refl _ _)
  have HEL := Lib.hid (fun W (h : Below w14.heap.size w14 W) => HEL.out W (HQ.out.trans (h.mono HQ.out.size)))
  go_wp2_with fail
  clear a0 a1 a2 a3 a4 a5 a6 a7
  go_at_call 18
  refine (oown_is (b := w14.heap.size) (c := 1) [⟨0, 1, 0, 2, 0, 1, true, some ⟨BL, 0, none⟩, 1, [⟨0, 5, 41, 7⟩]⟩] 0 17 (by kernel_rfl) (by simp) (by kernel_rfl) (heap_alloc_new w14 _) (mem_one (HEL.out _ ((Below.refl _ _).alloc (Nat.le_refl _) _)))).mono ?_
  rintro e w15 ⟨rfl, hb⟩
  have HQ : Hid (Below w14.heap.size w14 w15) := Lib.hid (((Below.refl w14.heap.size w14).alloc (Nat.le_refl _) _).trans (hb.mono (by simp)))
  have HC : Hid (Below w.heap.size w w15) := Lib.hid (HC.out.trans (HQ.out.mono HC.out.size))
  clear hb
  clear HLL HEL HPL
  go_wp2_with fail
  refine (event_any 6 40 1 _).mono ?_
  rintro e w16 ⟨rfl, hb⟩
  have HC : Hid (Below w.heap.size w w16) := Lib.hid (HC.out.trans (hb.mono HC.out.size))
  have HQ : Hid (Below w15.heap.size w15 w16) := Lib.hid hb
  clear hb
  obtain ⟨w17, hw17⟩ : ∃ w17, w16.alloc (.cells #[.int .i64 0, .int .u8 6, .int .i64 40, .int .i64 1] 38 (0, 0)) = w17 := ⟨_, rfl⟩
  have HEV : Hid (EvsAt w17 w17.heap.size (some ⟨w16.heap.size, 0, none⟩) [⟨0, 6, 40, 1⟩]) := Lib.hid (by rw [← hw17]; exact evsAt_one (evAt_new w16 0 6 40 1 _))
  have HC : Hid (Below w.heap.size w w17) := Lib.hid (by rw [← hw17]; exact HC.out.alloc HC.out.size _)
  obtain ⟨BO, hB⟩ : ∃ B, w16.heap.size = B := ⟨_, rfl⟩
  have HEO : Hid (EvsAt w17 w17.heap.size (some ⟨BO, 0, none⟩) [⟨0, 6, 40, 1⟩]) := Lib.hid (by rw [← hB]; exact HEV.out)
  clear HEV
  obtain ⟨XO, hX⟩ : ∃ X, w17.heap.size = X := ⟨_, rfl⟩
  have HL0 := Lib.hid (livS_new w17 0 0 0 (-1) 0 0 false BO 1 35)
  obtain ⟨wpO, hwp⟩ : ∃ wp, w17.alloc (.cells #[.int .i64 0, .int .u8 0, .int .i64 0, .int .i64 (-1), .int .i64 0, .int .i64 0, .bool false, .slice (some ⟨BO, 0, none⟩) 1 1] 35 (0, 0)) = wp := ⟨_, rfl⟩
  have HLO : Hid (LivS wpO XO 0 0 0 (-1) 0 0 false BO 1 wpO) := Lib.hid (by rw [← hwp, ← hX]; exact HL0.out)
  have HC : Hid (Below w.heap.size w wpO) := Lib.hid (by rw [← hwp]; exact HC.out.alloc HC.out.size _)
  have HPO : Hid (Below w17.heap.size w17 wpO) := Lib.hid (by rw [← hwp]; exact (Below.refl _ _).alloc (Nat.le_refl _) _)
  have HEO : Hid (∀ W, Below wpO.heap.size wpO W → EvsAt W W.heap.size (some ⟨BO, 0, none⟩) [⟨0, 6, 40, 1⟩]) := Lib.hid (fun W h => (HEO.out.keep HPO.out HPO.out.size).keep h h.size)
  clear HL0
  obtain ⟨-, a0, a1, a2, a3, a4, a5, a6, a7⟩ := id HLO.out
  go_wp2_with fail
  clear hwp hX hw17 hB a0 a1 a2 a3 a4 a5 a6 a7
  refine (event_any 2 40 0 _).mono ?_
  rintro e w18 ⟨rfl, hb⟩
  have HC : Hid (Below w.heap.size w w18) := Lib.hid (HC.out.trans (hb.mono HC.out.size))
  have HQ : Hid (Below wpO.heap.size wpO w18) := Lib.hid hb
  clear hb
  go_wp2_with fail
  refine (gave_any 1 1 5 0 w18.heap.size ⟨0, 2, 40, 0⟩ _ (evAt_new w18 0 2 40 0 _) (by simp)).mono ?_
  rintro e w19 ⟨rfl, hE4, hM4⟩
  have HQ2 : Hid (Below wpO.heap.size wpO w19) := Lib.hid (HQ.out.trans (((Below.refl w18.heap.size w18).alloc (Nat.le_refl _) _ |>.trans (hM4.below (by simp))).mono HQ.out.size))
  have HEV : Hid (EvsAt w19 w19.heap.size (some ⟨w18.heap.size, 0, none⟩) [⟨1, 2, 40, 0⟩]) := Lib.hid (evsAt_one hE4)
  have HC : Hid (Below w.heap.size w w19) := Lib.hid ((HC.out.alloc HC.out.size _).trans ((hM4.below (by simp)).mono HC.out.size))
  clear hE4 hM4
  obtain ⟨BP, hB⟩ : ∃ B, w18.heap.size = B := ⟨_, rfl⟩
  have HEP : Hid (EvsAt w19 w19.heap.size (some ⟨BP, 0, none⟩) [⟨1, 2, 40, 0⟩]) := Lib.hid (by rw [← hB]; exact HEV.out)
  rw [hB]
  clear hB HEV
  obtain ⟨XP, hX⟩ : ∃ X, w19.heap.size = X := ⟨_, rfl⟩
  have HL0 := Lib.hid (livS_new w19 1 2 1 5 0 0 false BP 1 35)
  obtain ⟨wpP, hwp⟩ : ∃ wp, w19.alloc (.cells #[.int .i64 1, .int .u8 2, .int .i64 1, .int .i64 5, .int .i64 0, .int .i64 0, .bool false, .slice (some ⟨BP, 0, none⟩) 1 1] 35 (0, 0)) = wp := ⟨_, rfl⟩
  have HLP : Hid (LivS wpP XP 1 2 1 5 0 0 false BP 1 wpP) := Lib.hid (by rw [← hwp, ← hX]; exact HL0.out)
  have HC : Hid (Below w.heap.size w wpP) := Lib.hid (by rw [← hwp]; exact HC.out.alloc HC.out.size _)
  have HPP : Hid (Below w19.heap.size w19 wpP) := Lib.hid (by rw [← hwp]; exact (Below.refl _ _).alloc (Nat.le_refl _) _)
  have HEP : Hid (∀ W, Below wpP.heap.size wpP W → EvsAt W W.heap.size (some ⟨BP, 0, none⟩) [⟨1, 2, 40, 0⟩]) := Lib.hid (fun W h => (HEP.out.keep HPP.out HPP.out.size).keep h h.size)
  clear HL0
  obtain ⟨-, a0, a1, a2, a3, a4, a5, a6, a7⟩ := id HLP.out
  have HQ3 := Lib.hid (HQ2.out.trans (HPP.out.mono HQ2.out.size))
  obtain ⟨-, b0, b1, b2, b3, b4, b5, b6, b7⟩ := (livS_hid HLO.out HQ3.out).out _ (Below.refl _ _)
  have HEO := Lib.hid (fun W (h : Below wpP.heap.size wpP W) => HEO.out W (HQ3.out.trans (h.mono HQ3.out.size)))
  go_wp2_with fail
  clear hwp hX a0 a1 a2 a3 a4 a5 a6 a7 b0 b1 b2 b3 b4 b5 b6 b7
  go_at_call 18
  refine (oown_is (b := wpP.heap.size) (c := 2) [⟨0, 0, 0, -1, 0, 0, false, some ⟨BO, 0, none⟩, 1, [⟨0, 6, 40, 1⟩]⟩, ⟨1, 2, 1, 5, 0, 0, false, some ⟨BP, 0, none⟩, 1, [⟨1, 2, 40, 0⟩]⟩] 1 17 (by kernel_rfl) (by simp) (by kernel_rfl) (heap_alloc_new wpP _) (mem_two (HEO.out _ ((Below.refl _ _).alloc (Nat.le_refl _) _)) (HEP.out _ ((Below.refl _ _).alloc (Nat.le_refl _) _)))).mono ?_
  rintro e w20 ⟨rfl, hb⟩
  have HQ : Hid (Below wpP.heap.size wpP w20) := Lib.hid (((Below.refl wpP.heap.size wpP).alloc (Nat.le_refl _) _).trans (hb.mono (by simp)))
  have HC : Hid (Below w.heap.size w w20) := Lib.hid (HC.out.trans (HQ.out.mono HC.out.size))
  clear hb
  clear HLO HEO HPO HLP HEP HPP HQ2 HQ3
  go_wp2_with fail
  go_at_call 17
  refine (ocheck_is (b := w20.heap.size) (c := 1) [⟨0, 0, 0, 0, 0, 0, false, none, 0, []⟩] 0 15 (by kernel_rfl) (by simp) (by kernel_rfl) (heap_alloc_new w20 _) (mem_one (fun h => absurd rfl h))).mono ?_
  rintro e w21 ⟨rfl, hb⟩
  have HQ : Hid (Below w20.heap.size w20 w21) := Lib.hid (((Below.refl w20.heap.size w20).alloc (Nat.le_refl _) _).trans (hb.mono (by simp)))
  have HC : Hid (Below w.heap.size w w21) := Lib.hid (HC.out.trans (HQ.out.mono HC.out.size))
  clear hb
  go_wp2_with fail
  refine (lives30_any _).mono ?_
  rintro e w22 ⟨rfl, hb⟩
  have HC : Hid (Below w.heap.size w w22) := Lib.hid (HC.out.trans (hb.mono HC.out.size))
  clear hb
  go_wp2_with fail
  go_ret
  exact ⟨rfl, HC.out⟩
end Go.Proofs.Ytjaegddnikkibaa
