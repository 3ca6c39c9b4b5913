/-
  EffectWhole: the law, walked.
-/
import Derived.Test.YtkklogikakcanaaDoorEffR
import Derived.Test.YtkklogikakcanaaDoorSizeB
import Derived.Test.YtkklogikakcanaaDoorTreeOpen
set_option linter.unusedVariables false
set_option linter.unusedSimpArgs false
namespace Go.Proofs.YtkklogikakcanaaDoor
open Go Go.RowKit

set_option maxHeartbeats 400000 in
set_option maxRecDepth 100000 in
theorem beyond1_any (b off c : Nat) (x : Int) (h1 : 0 ≤ x) (h2 : x ≤ 9223372036854775807) (w : World) (hc : w.cell? ⟨b, off, none⟩ = some (.int .i64 x)) :
    Calls Tryd.prog 7 #[.slice (some ⟨b, off, none⟩) 1 c] w fun e w' => e = .returned (.bool (decide (262144 < x))) ∧ w = w' := by
  by_cases hx : 262144 < x
  · rw [show decide (262144 < x) = true by simpa using hx]
    go_enter Tryd.func7, Tryd.ntmps7
    go_wp2
    refine wp_loop_rounds 1 ?_
    rw [rounds_succ]
    go_wp2
    go_ret
    exact ⟨rfl, rfl⟩
  · rw [show decide (262144 < x) = false by simpa using hx]
    go_enter Tryd.func7, Tryd.ntmps7
    go_wp2
    refine wp_loop_rounds 2 ?_
    rw [rounds_succ]
    go_wp2
    rw [rounds_succ]
    go_wp2
    go_ret
    exact ⟨rfl, rfl⟩
/-- the tests of a function's effect, as the law makes them -/
theorem law_tests : ∀ e : Nat, e < 8 → ¬ (e &&& 1 ≠ 0 ∧ e &&& 2 ≠ 0) → (e &&& 2 ≠ 0 → e &&& 4 ≠ 0) →
    (bits BinOp.and IntKind.u8 (e : Int) 3 == 3) = false ∧ ((bits BinOp.and IntKind.u8 (e : Int) 2 != 0) = true → (bits BinOp.and IntKind.u8 (e : Int) 4 == 0) = false) ∧ ((e &&& 2 = 0 ∧ e &&& 4 = 0) → (bits BinOp.and IntKind.u8 (e : Int) 6 != 0) = false) ∧ decide (7 < (e : Int)) = false := by
  intro e he h1 h2
  have h8 : e = 0 ∨ e = 1 ∨ e = 2 ∨ e = 3 ∨ e = 4 ∨ e = 5 ∨ e = 6 ∨ e = 7 := by omega
  rcases h8 with rfl | rfl | rfl | rfl | rfl | rfl | rfl | rfl
  all_goals first
    | exact ⟨by decide, by decide, by decide, by decide⟩
    | exact absurd ⟨by decide, by decide⟩ h1
    | exact absurd (h2 (by decide)) (by decide)

set_option maxHeartbeats 16000000 in
set_option maxRecDepth 100000 in
theorem effectWhole_walk (p : Pr) (w : World) (hI : PrIn w w.heap.size p) (G : EfGl w.heap.size w) :
    Calls Tryd.prog 3 #[.agg p.cells.toArray] w fun e w' => e = .returned (.bool true) ∧ Below w.heap.size w w' := by
  have HG0 : Hid (∀ W', Below w.heap.size w W' → EfGl W'.heap.size W') := Lib.hid fun W' hb => G.below hb
  have HI0 : Hid (∀ W', Below w.heap.size w W' → PrIn W' W'.heap.size p) := Lib.hid fun W' hb => hI.keep hb hb.size
  obtain ⟨X, hX⟩ : ∃ X, w.heap.size = X := ⟨_, rfl⟩
  obtain ⟨w1, hw1⟩ : ∃ w1, w.alloc (prObj p) = w1 := ⟨_, rfl⟩
  have hb1 : Below w.heap.size w w1 := by rw [← hw1]; exact (Below.refl _ _).alloc (Nat.le_refl _) _
  have x1 : w1.heap[X]? = some (prObj p) := by rw [← hw1, ← hX]; exact heap_alloc_new w _
  have HX1 : Hid (∀ W', Below w1.heap.size w1 W' → W'.heap[X]? = some (prObj p)) := Lib.hid fun W' hb => (hb.block X (blk_lt x1)).trans x1
  have HBw : Hid (∀ W', Below w1.heap.size w1 W' → Below w.heap.size w W') := Lib.hid fun W' hb => hb1.trans (hb.mono hb1.size)
  have HG : Hid (∀ W', Below w1.heap.size w1 W' → EfGl W'.heap.size W') := Lib.hid fun W' hb => HG0.out _ (HBw.out _ hb)
  have HI : Hid (∀ W', Below w1.heap.size w1 W' → PrIn W' W'.heap.size p) := Lib.hid fun W' hb => HI0.out _ (HBw.out _ hb)
  have HN := Lib.hid (And.intro hX hw1)
  have hrg := prSize_range p
  have C1 := Lib.hid (prsize_any p w1 (HI0.out _ hb1))
  have HBw1 : Hid (Below w1.heap.size w1 w1) := Lib.hid (Below.refl _ _)
  have q0 := cell_at x1 0
  have q1 := cell_at x1 1
  have q2 := cell_at x1 2
  have q3 := cell_at x1 3
  simp only [List.getElem?_toArray, List.getElem?_cons_zero, List.getElem?_cons_succ] at q0 q1 q2 q3
  rw [← hw1, ← hX] at q0 q1 q2 q3
  dsimp only [Pr.cells]
  by_cases hbig : 262144 < prSizeS p
  · have CB : Hid (∀ (b : Nat) (W : World), W.cell? ⟨b, 0, none⟩ = some (.int .i64 (prSizeS p)) → Calls Tryd.prog 7 #[.slice (some ⟨b, 0, none⟩) 1 1] W fun e w' => e = .returned (.bool true) ∧ W = w') := Lib.hid fun b W hc => by
      have h := beyond1_any b 0 1 (prSizeS p) hrg.1 (by omega) W hc
      rwa [show decide (262144 < prSizeS p) = true by simpa using hbig] at h
    generalize prSizeS p = sz at *
    clear hX hw1 hb1 x1 hI G hrg hbig
    go_enter Tryd.func3, Tryd.ntmps3
    go_wp2_with fail
    simp only [HN.out.1, HN.out.2]
    refine C1.out.mono ?_
    rintro e w2 ⟨rfl, hb2⟩
    have HB2 := Lib.hid (HBw.out _ hb2)
    clear hb2 C1
    go_wp2_with fail
    refine (CB.out _ _ (cell_at (heap_alloc_new w2 _) 0)).mono ?_
    rintro e w3 ⟨rfl, rfl⟩
    have HZ : Hid (∀ o, Below w.heap.size w (w2.alloc o)) := Lib.hid fun o => HB2.out.alloc HB2.out.size o
    go_wp2_with fail
    go_ret
    exact ⟨rfl, HZ.out _⟩
  · have CB : Hid (∀ (b : Nat) (W : World), W.cell? ⟨b, 0, none⟩ = some (.int .i64 (prSizeS p)) → Calls Tryd.prog 7 #[.slice (some ⟨b, 0, none⟩) 1 1] W fun e w' => e = .returned (.bool false) ∧ W = w') := Lib.hid fun b W hc => by
      have h := beyond1_any b 0 1 (prSizeS p) hrg.1 (by omega) W hc
      rwa [show decide (262144 < prSizeS p) = false by simpa using hbig] at h
    have hsm := prSize_small (p := p) (by omega)
    have hFl : p.fs.length ≤ 262144 := by have := hsm.heads; omega
    generalize prSizeS p = sz at *
    clear hX hw1 hb1 x1 hI G hrg hbig hsm
    go_enter Tryd.func3, Tryd.ntmps3
    go_wp2_with fail
    simp only [HN.out.1, HN.out.2]
    refine C1.out.mono ?_
    rintro e w2 ⟨rfl, hb2⟩
    have HB2 := Lib.hid hb2
    clear hb2 C1 q0 q1 q2 q3
    go_wp2_with fail
    refine (CB.out _ _ (cell_at (heap_alloc_new w2 _) 0)).mono ?_
    rintro e w3 ⟨rfl, hw3⟩
    have hb3 : Below w1.heap.size w1 w3 := by rw [← hw3]; exact HB2.out.alloc HB2.out.size _
    have HBw3 := Lib.hid hb3
    have g3 := HG.out _ hb3
    have CC := Lib.hid (efCheck_any w3.heap.size p w3 g3.gl g3.num (HI.out _ hb3))
    have row := HX1.out _ HBw3.out
    have q0 := cell_at row 0
    have q1 := cell_at row 1
    have q2 := cell_at row 2
    have q3 := cell_at row 3
    simp only [List.getElem?_toArray, List.getElem?_cons_zero, List.getElem?_cons_succ] at q0 q1 q2 q3
    clear row
    clear hw3 hb3 g3 CB HB2
    go_wp2_with fail
    refine CC.out.mono ?_
    rintro e w4 ⟨⟨a, er⟩, rfl, hF, hb4⟩
    have HBw4 : Hid (Below w1.heap.size w1 w4) := Lib.hid (HBw3.out.trans (hb4.mono HBw3.out.size))
    have HF := Lib.hid hF
    have g4 := HG.out _ HBw4.out
    have CO := Lib.hid (efOf_any w4.heap.size p w4 g4.gl g4.num (HI.out _ HBw4.out))
    clear hb4 hF g4 CC q0 q1 q2 q3
    have row := HX1.out _ HBw4.out
    have q0 := cell_at row 0
    have q1 := cell_at row 1
    have q2 := cell_at row 2
    have q3 := cell_at row 3
    simp only [List.getElem?_toArray, List.getElem?_cons_zero, List.getElem?_cons_succ] at q0 q1 q2 q3
    clear row
    go_wp2_with fail
    refine CO.out.mono ?_
    rintro e w5 ⟨F2, hF2, hb5, hE⟩
    obtain rfl := hF2.det HF.out
    have HBw5 : Hid (Below w1.heap.size w1 w5) := Lib.hid (HBw4.out.trans (hb5.mono HBw4.out.size))
    clear hF2 hb5 CO q0 q1 q2 q3
    rcases hE with ⟨h0, rfl⟩ | ⟨h0, s, Db, hev, rfl, hd, -⟩
    · dsimp only at h0
      have e1 : (er != 0) = true := by simpa using h0
      clear h0
      go_wp2_with fail
      refine (alive06_any w5 (HG.out _ HBw5.out)).mono ?_
      rintro e w99 ⟨rfl, hb⟩
      have HBz := Lib.hid ((HBw.out _ HBw5.out).trans (hb.mono (HBw.out _ HBw5.out).size))
      clear hb
      go_wp2_with fail
      go_ret
      exact ⟨rfl, HBz.out⟩
    · dsimp only at h0
      subst h0
      have HD := Lib.hid hd
      have HL : Hid (∀ (i : Nat) (f : Fu), p.fs[i]? = some f → ∃ e, s.does[i]? = some e ∧ e < 8 ∧ EfLaw f e) := Lib.hid fun i f hf => by
        have hE := evL_new hev
        obtain ⟨e, he⟩ : ∃ e, s.does[i]? = some e := ⟨_, List.getElem?_eq_getElem (by rw [hE.dl]; exact (List.getElem?_eq_some_iff.1 hf).1)⟩
        have hl := ef_law HF.out hev hf he
        exact ⟨e, he, by have := hl.le; omega, hl⟩
      clear hev hd
      have row := HX1.out _ HBw5.out
      have q0 := cell_at row 0
      have q1 := cell_at row 1
      have q2 := cell_at row 2
      have q3 := cell_at row 3
      simp only [List.getElem?_toArray, List.getElem?_cons_zero, List.getElem?_cons_succ] at q0 q1 q2 q3
      clear row
      go_wp2_with fail
      go_loopw [7] (fun ii wr => ∃ (j : Nat), ii = .int .i64 j ∧ j ≤ p.fs.length ∧ Hid (wr = w5)) (fun ii _ => p.fs.length - (intOf ii).toNat)
      case atStart => exact ⟨0, rfl, Nat.zero_le _, Lib.hid rfl⟩
      case round =>
        obtain ⟨j, rfl, hj, hw⟩ := hrel
        obtain rfl := hw.out
        have p2 : (0 : Int) ≤ (j : Int) := Int.natCast_nonneg _
        by_cases hlt : j < p.fs.length
        · obtain ⟨f, hf⟩ : ∃ f, p.fs[j]? = some f := ⟨_, List.getElem?_eq_getElem hlt⟩
          obtain ⟨ev, he, he8, hlaw⟩ := HL.out j f hf
          have hIr := HI.out _ HBw5.out
          obtain ⟨rb, ro, hda, hrb, hrow⟩ := hIr.frow (by intro h0; rw [h0] at hlt; simp at hlt)
          have z2 := (hrow j f hf).c2
          have d0 := (cell_at HD.out j).trans (lookV (f := fun e : Nat => Value.int .u8 (e : Int)) he)
          obtain ⟨t1, t2, t3, t4⟩ := law_tests ev he8 hlaw.both hlaw.tells
          have t5 : (f.t.k != 0) = true → (bits BinOp.and IntKind.u8 (ev : Int) 6 != 0) = false := fun h => t3 (hlaw.res (by simpa using h))
          have p1 : (j : Int) < (p.fs.length : Int) := by omega
          clear t3 hlaw hrow hrb hIr hf he he8
          rw [hda] at q2
          cases h2 : (bits BinOp.and IntKind.u8 (ev : Int) 2 != 0) with
          | true =>
            have h4 := t2 h2
            cases h6 : (f.t.k != 0) with
            | true =>
              have h7 := t5 h6
              clear t2 t5
              go_wp2_with fail
              go_roundw
              case rel => exact ⟨j + 1, by go_num, by omega, by first | exact Lib.hid trivial | exact Lib.hid rfl⟩
              case measure => simp [intOf]; omega
            | false =>
              clear t2 t5
              go_wp2_with fail
              go_roundw
              case rel => exact ⟨j + 1, by go_num, by omega, by first | exact Lib.hid trivial | exact Lib.hid rfl⟩
              case measure => simp [intOf]; omega
          | false =>
            cases h6 : (f.t.k != 0) with
            | true =>
              have h7 := t5 h6
              clear t2 t5
              go_wp2_with fail
              go_roundw
              case rel => exact ⟨j + 1, by go_num, by omega, by first | exact Lib.hid trivial | exact Lib.hid rfl⟩
              case measure => simp [intOf]; omega
            | false =>
              clear t2 t5
              go_wp2_with fail
              go_roundw
              case rel => exact ⟨j + 1, by go_num, by omega, by first | exact Lib.hid trivial | exact Lib.hid rfl⟩
              case measure => simp [intOf]; omega
        · obtain rfl : j = p.fs.length := by omega
          clear q0 q1 q2 q3
          have HBwr := HBw5
          go_wp2_with fail
          refine (alive06_any wr (HG.out _ HBwr.out)).mono ?_
          rintro e w99 ⟨rfl, hb⟩
          have HBz := Lib.hid ((HBw.out _ HBwr.out).trans (hb.mono (HBw.out _ HBwr.out).size))
          clear hb
          go_wp2_with fail
          go_ret
          exact ⟨rfl, HBz.out⟩
end Go.Proofs.YtkklogikakcanaaDoor
