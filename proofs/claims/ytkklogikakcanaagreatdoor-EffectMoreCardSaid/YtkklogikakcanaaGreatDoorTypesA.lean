import Derived.Test.YtkklogikakcanaaGreatDoorScopeK
import Derived.Test.YtkklogikakcanaaGreatDoorScopePlain
set_option linter.unusedVariables false
set_option linter.unusedSimpArgs false
open List renaming getElem?_toArray → sl7, getElem?_cons_zero → sl8, getElem?_cons_succ → sl9
namespace Go.Proofs.YtkklogikakcanaaGreatDoor
open Go Go.Maps Go.RowKit
mutual
theorem plSt_items : ∀ s : St, plSt s ≤ stCount s
 | .mk k nm t x y bd body ed els => by
  rw [plSt, stCount]
  have := plSts_items body
  have := plSts_items els
  omega
theorem plSts_items : ∀ l : List St, plSts l ≤ stCounts l
 | [] => by rw [plSts, stCounts]; exact Nat.le_refl _
 | s :: r => by
  rw [plSts, stCounts]
  have := plSt_items s
  have := plSts_items r
  omega
end
theorem sum_le_sum {α : Type} (f g : α → Nat) (h : ∀ x, f x ≤ g x) : ∀ l : List α, (l.map f).sum ≤ (l.map g).sum
 | [] => by simp
 | x :: r => by simp only [List.map_cons, List.sum_cons]; have := h x; have := sum_le_sum f g h r; omega
theorem places_good {p : Pr} {a : At} (h : chkPr p = .on a) : placesOf p ≤ 1000000 ∧ (∀ f ∈ p.fs, stsGood f.body) ∧ ∀ t ∈ p.ts, stsGood t.l := by
 have g := chkPr_on h
 refine ⟨?_, fun f hf => ?_, fun t ht => ?_⟩
 ·have h1 := g.items
  unfold itemsOf at h1
  have h2 := sum_le_sum (fun f : Fu => plSts f.body) (fun f => stCounts f.body) (fun f => plSts_items f.body) p.fs
  have h3 := sum_le_sum (fun t : Th => plSts t.l) (fun t => stCounts t.l) (fun t => plSts_items t.l) p.ts
  have := g.recs.1
  have := g.shs.1
  have := g.funs.1
  have := g.thrs.1
  unfold placesOf
  omega
 ·obtain ⟨-, -, -, a, a', h⟩ := g.funs.2 f hf
  exact chkSts_good _ _ _ _ h
 ·obtain ⟨a, a', h⟩ := g.thrs.2 t ht
  exact chkSts_good _ _ _ _ h
theorem fault_on {p : Pr} (h : (faultOf p).2 = 0) : ∃ a, chkPr p = .on a := by
 unfold faultOf at h
 cases hc : chkPr p with
 | on a => exact ⟨a, rfl⟩
 | bad q e => rw [hc] at h; exact absurd h (chkPr_ne p q e hc)
set_option maxHeartbeats 4000000 in
set_option maxRecDepth 100000 in
theorem typesCheck_any (B : Nat) (p : Pr) (w : World) (G : GlB B w) (N : NumG B w) (hI : PrIn w B p) :
  Calls Tryz.prog 10 #[p.val] w fun e w' => e = .returned (.tuple #[.int .i64 (typesCheck p).1, .int .i64 (typesCheck p).2]) ∧ Below w.heap.size w w' := by
 obtain ⟨X, hX⟩ : ∃ X, w.heap.size = X := ⟨_, rfl⟩
 obtain ⟨w1, hw1⟩ : ∃ w1, w.alloc (prObj p) = w1 := ⟨_, rfl⟩
 have hb1 : Below w.heap.size w w1 := by rw [← hw1]; exact (Below.refl _ _).alloc (Nat.le_refl _) _
 have x1 : w1.heap[X]? = some (prObj p) := by rw [← hw1, ← hX]; exact heap_alloc_new w _
 have C := Lib.hid (tfault_any B p w1 (G.below (hb1.mono G.le)) (hI.keep (hb1.mono G.le) (Nat.le_refl B)))
 have HB1 := Lib.hid hb1
 have HRow : Hid (∀ W, Below w1.heap.size w1 W → W.heap[X]? = some (prObj p)) := Lib.hid fun W hb => (hb.block X (lt_blk x1)).trans x1
 have HC2 : Hid (∀ W, Below w1.heap.size w1 W → (faultOf p).2 = 0 → Calls Tryz.prog 39 #[p.val] W fun e w' => e = .returned (.tuple #[.int .i64 (scFault p).1, .int .i64 (scFault p).2]) ∧ Below W.heap.size W w') := Lib.hid fun W hb h0 => by
  obtain ⟨a, ha⟩ := fault_on h0
  obtain ⟨h1, h2, h3⟩ := places_good ha
  have hbw := (hb1.trans (hb.mono hb1.size)).mono G.le
  exact scopeFault_any B p W (hI.keep hbw (Nat.le_refl B)) (Nat.le_trans G.le (hb1.trans (hb.mono hb1.size)).size) (N.keep hbw) h2 h3 h1
 have HN := Lib.hid (And.intro hX hw1)
 have q0 := cell_at x1 0
 have q1 := cell_at x1 1
 have q2 := cell_at x1 2
 have q3 := cell_at x1 3
 simp only [sl7, sl8, sl9] at q0 q1 q2 q3
 obtain ⟨F, hF⟩ : ∃ F, typesCheck p = F := ⟨_, rfl⟩
 rw [hF]
 have HF := Lib.hid hF
 clear hX hw1 hb1 x1 G N hI hF
 by_cases h0 : (faultOf p).2 = 0
 ·have n2 : ((faultOf p).2 == 0) = true := by simpa using h0
  obtain rfl : scFault p = F := by have h := HF.out; unfold typesCheck at h; rw [if_neg (fun hn => hn h0)] at h; exact h
  have HC := Lib.hid (fun W hb => HC2.out W hb h0)
  generalize faultOf p = fo at *
  generalize scFault p = so at *
  clear HF HC2 h0
  go_enter Tryz.func10, Tryz.ntmps10
  go_wp2_with fail
  simp only [HN.out.1, HN.out.2]
  refine C.out.mono ?_
  rintro e w2 ⟨rfl, hb2⟩
  have HB2 := Lib.hid hb2
  have row := HRow.out _ hb2
  have r0 := cell_at row 0
  have r1 := cell_at row 1
  have r2 := cell_at row 2
  have r3 := cell_at row 3
  simp only [sl7, sl8, sl9] at r0 r1 r2 r3
  clear row hb2 q0 q1 q2 q3 C
  go_wp2_with fail
  refine (HC.out _ HB2.out).mono ?_
  rintro e w3 ⟨rfl, hb3⟩
  have HB3 := Lib.hid (HB1.out.trans ((HB2.out.trans (hb3.mono HB2.out.size)).mono HB1.out.size))
  clear hb3
  go_wp2_with fail
  refine bodyPost_ret (v := .tuple #[.int .i64 so.1, .int .i64 so.2]) (by simp [results, Tryz.results10, go_sem]) rfl ?_
  exact ⟨rfl, HB3.out⟩
 ·have n2 : ((faultOf p).2 == 0) = false := by simpa using h0
  obtain rfl : (0, 1) = F := by have h := HF.out; unfold typesCheck at h; rw [if_pos h0] at h; exact h
  generalize faultOf p = fo at *
  clear HF HC2 h0
  go_enter Tryz.func10, Tryz.ntmps10
  go_wp2_with fail
  simp only [HN.out.1, HN.out.2]
  refine C.out.mono ?_
  rintro e w2 ⟨rfl, hb2⟩
  have HB2 := Lib.hid (HB1.out.trans (hb2.mono HB1.out.size))
  clear hb2 q0 q1 q2 q3 C
  go_wp2_with fail
  refine bodyPost_ret (v := .tuple #[.int .i64 0, .int .i64 1]) (by simp [results, Tryz.results10, go_sem]) rfl ?_
  exact ⟨rfl, HB2.out⟩
end Go.Proofs.YtkklogikakcanaaGreatDoor
