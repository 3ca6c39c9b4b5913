/-
  show.Program: a tree as text.
-/
import Derived.Test.YtblnmlbkgdncnaaDoorShowH
import Derived.Test.YtblnmlbkgdncnaaDoorTreeM
import Derived.Test.YtblnmlbkgdncnaaDoorTreePlain6
set_option linter.unusedVariables false
set_option linter.unusedSimpArgs false
namespace Go.Proofs.YtblnmlbkgdncnaaDoor
open Go.RowKit

theorem ExIn.num {w : World} {B : Nat} {x : Ex} (h : ExIn w B x) : ExNum x := by
  induction h with
  | mk hk hn hnm ht hl row sub ih => exact .mk hn ih
theorem StIn.num {w : World} {B : Nat} {s : St} (h : StIn w B s) : StNum s := by
  induction h with
  | mk hk hnm ht hx hy hbl hel brow erow bsub esub ih1 ih2 => exact .mk hx.num hy.num ih1 ih2
theorem PrIn.num {w : World} {B : Nat} {p : Pr} (h : PrIn w B p) : PrNum p := ⟨fun f hf s hs => ((h.fsub f hf).body.sub s hs).num, fun t ht s hs => ((h.tsub t ht).sub s hs).num⟩

set_option maxHeartbeats 2000000 in
/-- may a tree be? -/
theorem scheck_any (B : Nat) (p : Pr) (w : World) (G : GlB B w) (hI : PrIn w B p) :
    Calls Tryd.prog 19 #[p.val] w fun e w' => e = .returned (.int .i64 (faultOf p).2) ∧ Below w.heap.size w w' := by
  have hb0 := (Below.refl w.heap.size w).alloc (Nat.le_refl _) (prObj p)
  have C := Lib.hid (tfault_any B p (w.alloc (prObj p)) (G.below (hb0.mono G.le)) (hI.keep (hb0.mono G.le) (Nat.le_refl B)))
  have HB := Lib.hid hb0
  clear hb0 hI G
  go_enter Tryd.func19, Tryd.ntmps19
  go_wp2_with (go_at_call 35; refine C.out.mono ?_; rintro e w1 ⟨rfl, hb1⟩; have HB1 := Lib.hid (HB.out.trans (hb1.mono HB.out.size)); clear hb1)
  go_ret
  exact ⟨rfl, HB1.out⟩

set_option maxHeartbeats 16000000 in
set_option maxRecDepth 100000 in
theorem sprogram_any (p : Pr) (w : World) (GL : LGlobs w) (GG : Globs w) (hI : PrIn w w.heap.size p) (hne : (faultOf p).2 = 0 → wPr p ≠ []) :
    Calls Tryd.prog 11 #[p.val] w fun e w' => e = .returned (.tuple #[.string ⟨(showPr p).1.toArray⟩, .int .i64 (showPr p).2]) ∧ Below w.heap.size w w' := by
  obtain ⟨X, hX⟩ : ∃ X, w.heap.size = X := ⟨_, rfl⟩
  obtain ⟨w1, hw1⟩ : ∃ w1, w.alloc (prObj p) = w1 := ⟨_, rfl⟩
  have hb1 : Below w.heap.size w w1 := by rw [← hw1]; exact (Below.refl _ _).alloc (Nat.le_refl _) _
  have x1 : w1.heap[X]? = some (prObj p) := by rw [← hw1, ← hX]; exact heap_alloc_new w _
  have CK := Lib.hid (scheck_any w.heap.size p w1 ((GlB.of GL).below hb1) (hI.keep hb1 (Nat.le_refl _)))
  have HN := Lib.hid (And.intro hX hw1)
  have HB1 := Lib.hid hb1
  have HI := Lib.hid hI
  have HGG := Lib.hid GG
  have q0 := cell_at x1 0
  have q1 := cell_at x1 1
  have q2 := cell_at x1 2
  have q3 := cell_at x1 3
  simp only [List.getElem?_toArray, List.getElem?_cons_zero, List.getElem?_cons_succ] at q0 q1 q2 q3
  have HX1 := Lib.hid x1
  have HSz : Hid (w.heap.size = X) := Lib.hid hX
  by_cases her : (faultOf p).2 = 0
  · have hg : PrGood p := by
      cases hc : chkPr p with
      | bad q e =>
        have := chkPr_nz p q e hc
        rw [faultOf_r, hc] at her
        exact absurd her this
      | on a => exact chkPr_on hc
    have hN := prText_len hg hI.num
    have hSh := showPr_of p her
    obtain ⟨R, hR⟩ : ∃ R, showPr p = R := ⟨_, rfl⟩
    rw [hR] at hSh ⊢
    have HR := Lib.hid hSh
    have HGd := Lib.hid hg
    have HNe := Lib.hid (hne her)
    rw [her] at CK
    obtain ⟨RS, hRS⟩ : ∃ RS, (p.rs.map reText).flatten = RS := ⟨_, rfl⟩
    obtain ⟨SS, hSS⟩ : ∃ SS, (p.ss.map shText).flatten = SS := ⟨_, rfl⟩
    have hNN : RS.length + (SS.length + ((p.fs.map fuText).flatten.length + (p.ts.map thText).flatten.length)) ≤ 20000000 := by
      unfold prText at hN
      rw [hRS, hSS] at hN
      simpa using hN
    have HNN := Lib.hid hNN
    have HPh : Hid (RS ++ SS = prHead p) := Lib.hid (by unfold prHead; rw [hRS, hSS])
    have HRS := Lib.hid hRS
    have HSS := Lib.hid hSS
    clear hR hSh hg hN hNN hRS hSS hne her hX hw1 hb1 x1 hI GL GG
    go_enter Tryd.func11, Tryd.ntmps11
    go_wp2_with fail
    simp only [HN.out.1, HN.out.2]
    refine CK.out.mono ?_
    rintro e wB ⟨rfl, hbB⟩
    obtain ⟨Bb, hBb⟩ : ∃ Bb, wB.heap.size = Bb := ⟨_, rfl⟩
    obtain ⟨wA, hwA⟩ : ∃ wA, wB.alloc (.cells #[.pointer none, .slice none 0 0] 54 (0, 0)) = wA := ⟨_, rfl⟩
    have hbA : Below wB.heap.size wB wA := by rw [← hwA]; exact (Below.refl _ _).alloc (Nat.le_refl _) _
    have OA : Hid (TxOut Bb wB [] wA wA) := Lib.hid (TxOut.refl ⟨by rw [← hBb, ← hwA]; exact Writes.fresh wB, by rw [← hBb]; exact hbA⟩)
    have HwB : Hid (Below w.heap.size w wB) := Lib.hid (HB1.out.trans (hbB.mono HB1.out.size))
    have hXl : X < w1.heap.size := lt_of_blk HX1.out
    have HRowX : Hid (∀ W', Below Bb wB W' → W'.heap[X]? = some (prObj p)) := Lib.hid fun W' hb => (hb.block X (by rw [← hBb]; exact Nat.lt_of_lt_of_le hXl hbB.size)).trans ((hbB.block X hXl).trans HX1.out)
    have HG : Hid (∀ W', Below Bb wB W' → Globs W') := Lib.hid fun W' hb => (HGG.out.below HwB.out).below (by rw [hBb]; exact hb)
    have HIB : Hid (PrIn wB Bb p) := Lib.hid (HI.out.keep HwB.out (by rw [← hBb]; exact HwB.out.size))
    have HBBb : Hid (w.heap.size ≤ Bb) := Lib.hid (by rw [← hBb]; exact HwB.out.size)
    have HNA := Lib.hid (And.intro hBb hwA)
    clear hbB hBb hwA hbA hXl q0 q1 q2 q3 CK HI HX1 HN HSz HGG
    have row := HRowX.out _ (Below.refl Bb wB)
    have q0 := cell_at row 0
    simp only [List.getElem?_toArray, List.getElem?_cons_zero, List.getElem?_cons_succ] at q0
    have hXlt : X < wB.heap.size := lt_of_blk row
    have hXe : (wB.alloc (.cells #[.pointer none, .slice none 0 0] 54 (0, 0))).cell? ⟨X, 0, none⟩ = some (.slice p.rd.a p.rs.length p.rd.c) := (World.cell?_alloc_lt wB _ ⟨X, 0, none⟩ hXlt).trans q0
    clear row
    go_wp2_with fail
    simp only [HNA.out.1, HNA.out.2]
    have HR0 : Hid (([] : List UInt8) ++ ((p.rs.drop 0).map reText).flatten = RS) := Lib.hid (by rw [List.drop_zero, List.nil_append]; exact HRS.out)
    go_loopw [24] (fun ii wr => ∃ (j : Nat) (acc : List UInt8), ii = .int .i64 j ∧ j ≤ p.rs.length ∧ Hid (TxOut Bb wB acc wA wr) ∧ Hid (acc ++ ((p.rs.drop j).map reText).flatten = RS)) (fun ii _ => p.rs.length - (intOf ii).toNat)
    case atStart => exact ⟨0, [], rfl, Nat.zero_le _, OA, HR0⟩
    case round =>
      obtain ⟨j, acc, rfl, hj, HO, hC⟩ := hrel
      clear HR0
      have p2 : (0 : Int) ≤ (j : Int) := Int.natCast_nonneg _
      by_cases hlt : j < p.rs.length
      ·
        obtain ⟨s, hs⟩ : ∃ s, p.rs[j]? = some s := ⟨_, List.getElem?_eq_getElem hlt⟩
        have hdrop : p.rs.drop j = s :: p.rs.drop (j + 1) := by
          have := List.drop_eq_getElem_cons hlt
          rw [List.getElem?_eq_getElem hlt] at hs
          injection hs with hs
          rw [this, hs]
        have hmem := List.mem_of_getElem? hs
        have hIr := HIB.out.keep HO.out.st.bel (Nat.le_refl Bb)
        obtain ⟨rb, ro, hda, hrb, hrow⟩ := hIr.rrow (by intro h0; rw [h0] at hlt; simp at hlt)
        obtain ⟨z0, z1⟩ := hrow j s hs
        have hsI := HIB.out.rsub s hmem
        have hC1 := hC.out
        rw [hdrop, List.map_cons, List.flatten_cons] at hC1
        have hsg := (HGd.out.recs.2 s hmem).1
        have hnl := (nameB_len hsg).1
        obtain ⟨nm, d, fs⟩ := s
        dsimp only at z0 z1 hsI hC1 hnl
        have HA : Hid (acc ++ ([114, 101, 99, 111, 114, 100, 32] ++ nm ++ [32, 123, 10, 32, 32]) ++ flsText [59, 10, 32, 32] fs ++ [59, 10, 125, 10] ++ ((p.rs.drop (j + 1)).map reText).flatten = RS) := Lib.hid (by rw [← hC1]; simp [reText])
        have HLn : Hid (acc.length + (12 + nm.length + (flsText [59, 10, 32, 32] fs).length + 4) ≤ 20000000) := Lib.hid (by have h1 := HA.out; have h2 := HNN.out; rw [← h1] at h2; simp at h2 ⊢; omega)
        have HFs : Hid (∀ t' W', TxOut Bb wB t' wA W' → FlsIn W' W'.heap.size d fs) := Lib.hid fun t' W' o => hsI.fs.keep o.st.bel (Nat.le_of_lt o.st.lt)
        have c1 : ¬ (9223372036854775807 < 7 + nm.length) := by omega
        have c2 : ¬ (9223372036854775807 < 7 + nm.length + 5) := by omega
        have p1 : (j : Int) < (p.rs.length : Int) := by omega
        have p3 : p.rs.length ≤ 140737488355328 := by have := HGd.out.recs.1; omega
        obtain ⟨X6, hX6⟩ : ∃ X6, wr.heap.size = X6 := ⟨_, rfl⟩
        obtain ⟨w6, hw6⟩ : ∃ w6, wr.alloc (.cells #[.string ⟨nm.toArray⟩, .slice d.a fs.length d.c] 64 (0, 0)) = w6 := ⟨_, rfl⟩
        have hb6 : Below wr.heap.size wr w6 := by rw [← hw6]; exact (Below.refl _ _).alloc (Nat.le_refl _) _
        have x6 : w6.heap[X6]? = some (.cells #[.string ⟨nm.toArray⟩, .slice d.a fs.length d.c] 64 (0, 0)) := by rw [← hw6, ← hX6]; exact heap_alloc_new wr _
        have O6 := Lib.hid (TxOut.refl (HO.out.st.keep hb6))
        have HTr : Hid (∀ t' W', TxOut Bb wB t' w6 W' → TxOut Bb wB t' wA W') := Lib.hid fun t' W' o => (HO.out.below hb6).trans o
        have hX6B : X6 ≠ Bb := by have := HO.out.st.lt; omega
        have HRow6 : Hid (∀ W', Stay Bb w6 W' → W'.heap[X6]? = some (.cells #[.string ⟨nm.toArray⟩, .slice d.a fs.length d.c] 64 (0, 0))) := Lib.hid fun W' hs => hs X6 _ x6 hX6B (fun cs fz e => by injection e with _ e; exact absurd e (by decide))
        have HN6 := Lib.hid (And.intro hX6 hw6)
        clear x6 hb6 hX6B hX6 hw6
        clear hrow hIr hdrop hs hmem hC hC1 hsg hnl hsI HO
        rw [hda]
        go_wp2_with fail
        simp only [HN6.out.1, HN6.out.2]
        clear z0 z1
        refine wp_region_L (l := 7) (S := (fun W' => W'.cell? ⟨X6, 0, none⟩ = some (.string ⟨nm.toArray⟩))) (by kernel_rfl) ?_ (fun hHeld => ?_)
        · ((try dsimp only); (exact cell_at (HRow6.out _ (Stay.refl _ _)) 0))
        refine wpAnyL_take (i := 0) (oi := _) (v := ?v1) rfl (by kernel_rfl) (fun _ _ _ h => h) (by assumption) (Or.inl ⟨by kernel_rfl, ?y1⟩) ?r1
        case y1 => (intro w hSw; (try dsimp only at hSw); go_simp; all_goals with_reducible rfl)
        try simp only [List.getElem_toArray, List.getElem_cons_zero, List.getElem_cons_succ, Act.put, List.setIfInBounds_toArray, List.set_cons_zero, List.set_cons_succ]
        refine wpAnyL_take (i := 1) (oi := _) (v := ?v2) rfl (by kernel_rfl) (fun _ _ _ h => h) (by assumption) (Or.inl ⟨by kernel_rfl, ?y2⟩) ?r2
        case y2 => (intro w hSw; (try dsimp only at hSw); go_simp; all_goals with_reducible rfl)
        try simp only [List.getElem_toArray, List.getElem_cons_zero, List.getElem_cons_succ, Act.put, List.setIfInBounds_toArray, List.set_cons_zero, List.set_cons_succ]
        refine wpAnyL_take (i := 2) (oi := _) (v := ?v3) rfl (by kernel_rfl) (fun _ _ _ h => h) (by assumption) (Or.inl ⟨by kernel_rfl, ?y3⟩) ?r3
        case y3 => (intro w hSw; (try dsimp only at hSw); go_simp; all_goals with_reducible rfl)
        try simp only [List.getElem_toArray, List.getElem_cons_zero, List.getElem_cons_succ, Act.put, List.setIfInBounds_toArray, List.set_cons_zero, List.set_cons_succ]
        refine wpAnyL_take (i := 3) (oi := _) (v := ?v4) rfl (by kernel_rfl) (fun _ _ _ h => h) (by assumption) (Or.inl ⟨by kernel_rfl, ?y4⟩) ?r4
        case y4 => (intro w hSw; (try dsimp only at hSw); go_simp; all_goals with_reducible rfl)
        try simp only [List.getElem_toArray, List.getElem_cons_zero, List.getElem_cons_succ, Act.put, List.setIfInBounds_toArray, List.set_cons_zero, List.set_cons_succ]
        refine wpAnyL_take (i := 4) (oi := _) (v := ?v5) rfl (by kernel_rfl) (fun _ _ _ h => h) (by assumption) (Or.inl ⟨by kernel_rfl, ?y5⟩) ?r5
        case y5 => (intro w hSw; (try dsimp only at hSw); go_simp; all_goals with_reducible rfl)
        try simp only [List.getElem_toArray, List.getElem_cons_zero, List.getElem_cons_succ, Act.put, List.setIfInBounds_toArray, List.set_cons_zero, List.set_cons_succ]
        refine wpAnyL_take (i := 5) (oi := _) (v := ?v6) rfl (by kernel_rfl) (fun _ _ _ h => h) (by assumption) (Or.inl ⟨by kernel_rfl, ?y6⟩) ?r6
        case y6 => (intro w hSw; (try dsimp only at hSw); go_simp; all_goals with_reducible rfl)
        try simp only [List.getElem_toArray, List.getElem_cons_zero, List.getElem_cons_succ, Act.put, List.setIfInBounds_toArray, List.set_cons_zero, List.set_cons_succ]
        refine wpAnyL_take (i := 6) (oi := _) (v := ?v7) rfl (by kernel_rfl) (fun _ _ _ h => h) (by assumption) (Or.inl ⟨by kernel_rfl, ?y7⟩) ?r7
        case y7 => (intro w hSw; (try dsimp only at hSw); go_simp; all_goals with_reducible rfl)
        try simp only [List.getElem_toArray, List.getElem_cons_zero, List.getElem_cons_succ, Act.put, List.setIfInBounds_toArray, List.set_cons_zero, List.set_cons_succ]
        refine wpAnyL_last (j := 7) (o := _) (by kernel_rfl) rfl (by rfl) (by kernel_rfl) (fun K hK => ?_)
        (go_simp; go_at_call 25; refine (put_any' Bb wB acc ([114, 101, 99, 111, 114, 100, 32] ++ nm ++ [32, 123, 10, 32, 32]) _ (cat_b3 [114, 101, 99, 111, 114, 100, 32] nm [32, 123, 10, 32, 32]) _ (O6.out.below (Below.refl _ _).drew).st (by have := HLn.out; simp at this ⊢; omega)).mono ?_; rintro e w7 ⟨rfl, hO⟩; have O7 := Lib.hid ((O6.out.below (Below.refl _ _).drew).trans hO); clear hO)
        (refine hK _ _ ?_; clear hK K)
        try simp only [List.getElem_toArray, List.getElem_cons_zero, List.getElem_cons_succ, Act.put, List.setIfInBounds_toArray, List.set_cons_zero, List.set_cons_succ]
        clear hHeld c1 c2
        have row := HRow6.out _ O7.out.stay
        have r1 := cell_at row 1
        simp only [List.getElem?_toArray, List.getElem?_cons_zero, List.getElem?_cons_succ] at r1
        clear row
        go_wp2_with fail
        refine (sfields_any Bb wB HG [59, 10, 32, 32] d fs _ w7 O7.out.st (Lib.hid fun t' W' o => HFs.out t' W' (HTr.out _ _ (O7.out.trans o))) (by have := HLn.out; simp at this ⊢; omega)).mono ?_
        rintro e w8 ⟨rfl, hO⟩
        have O8 := Lib.hid (O7.out.trans hO)
        clear hO r1
        go_wp2_with fail
        refine (put_any' Bb wB (acc ++ ([114, 101, 99, 111, 114, 100, 32] ++ nm ++ [32, 123, 10, 32, 32]) ++ flsText [59, 10, 32, 32] fs) [59, 10, 125, 10] _ rfl w8 O8.out.st (by have := HLn.out; simp at this ⊢; omega)).mono ?_
        rintro e w9 ⟨rfl, hO⟩
        have O9 := Lib.hid (O8.out.trans hO)
        clear hO
        have OZ := Lib.hid (HTr.out _ _ O9.out)
        clear O6 O7 O8 O9 HRow6 HTr HN6
        go_wp2_with fail
        go_roundw
        case rel => exact ⟨j + 1, _, by go_num, by omega, OZ, HA⟩
        case measure => simp [intOf]; omega
      · obtain rfl : j = p.rs.length := by omega
        obtain rfl : acc = RS := by have h := hC.out; rw [List.drop_length] at h; simpa using h
        have row := HRowX.out _ HO.out.st.bel
        have q0 := cell_at row 0
        have q1 := cell_at row 1
        have q2 := cell_at row 2
        have q3 := cell_at row 3
        clear row
        simp only [List.getElem?_toArray, List.getElem?_cons_zero, List.getElem?_cons_succ] at q0 q1 q2 q3
        have HR0 : Hid (acc ++ ((p.ss.drop 0).map shText).flatten = prHead p) := Lib.hid (by rw [List.drop_zero, HSS.out]; exact HPh.out)
        clear hC HRS
        have HOn := HO
        clear HO
        go_wp2_with fail
        go_loopw [48] (fun ii wr => ∃ (j : Nat) (acc : List UInt8), ii = .int .i64 j ∧ j ≤ p.ss.length ∧ Hid (TxOut Bb wB acc wA wr) ∧ Hid (acc ++ ((p.ss.drop j).map shText).flatten = prHead p)) (fun ii _ => p.ss.length - (intOf ii).toNat)
        case atStart => exact ⟨0, _, rfl, Nat.zero_le _, HOn, HR0⟩
        case round =>
          have HPl : Hid ((prHead p).length ≤ 20000000) := Lib.hid (by have h1 := HPh.out; have h2 := HNN.out; rw [← h1]; simp; omega)
          obtain ⟨j, acc, rfl, hj, HO, hC⟩ := hrel
          clear HR0 HOn
          have p2 : (0 : Int) ≤ (j : Int) := Int.natCast_nonneg _
          by_cases hlt : j < p.ss.length
          ·
            obtain ⟨s, hs⟩ : ∃ s, p.ss[j]? = some s := ⟨_, List.getElem?_eq_getElem hlt⟩
            have hdrop : p.ss.drop j = s :: p.ss.drop (j + 1) := by
              have := List.drop_eq_getElem_cons hlt
              rw [List.getElem?_eq_getElem hlt] at hs
              injection hs with hs
              rw [this, hs]
            have hmem := List.mem_of_getElem? hs
            have hIr := HIB.out.keep HO.out.st.bel (Nat.le_refl Bb)
            obtain ⟨rb, ro, hda, hrb, hrow⟩ := hIr.ss.row (by intro h0; rw [h0] at hlt; simp at hlt)
            obtain ⟨z0, z1, z2, z3⟩ := hrow j s hs
            have hsI := HIB.out.ss.sub s hmem
            have hC1 := hC.out
            rw [hdrop, List.map_cons, List.flatten_cons] at hC1
            have HA : Hid (acc ++ [115, 104, 97, 114, 101, 100, 32] ++ flsText [] [s] ++ [59, 10] ++ ((p.ss.drop (j + 1)).map shText).flatten = prHead p) := Lib.hid (by rw [← hC1]; simp [shText, flsText, joined])
            have HLn : Hid (acc.length + (7 + (flsText [] [s]).length + 2) ≤ 20000000) := Lib.hid (by have h1 := HA.out; have h2 := HPl.out; rw [← h1] at h2; simp at h2 ⊢; omega)
            have p1 : (j : Int) < (p.ss.length : Int) := by omega
            have p3 : p.ss.length ≤ 140737488355328 := by have := HGd.out.shs.1; omega
            obtain ⟨fnm, ft⟩ := s
            dsimp only at z0 z1 z2 z3 hsI
            have HsI := Lib.hid hsI
            obtain ⟨X6, hX6⟩ : ∃ X6, wr.heap.size = X6 := ⟨_, rfl⟩
            obtain ⟨w6, hw6⟩ : ∃ w6, wr.alloc (.cells #[.string ⟨fnm.toArray⟩, .int .u8 ft.k, .string ⟨ft.nm.toArray⟩, .int .i64 ft.n] 77 (0, 0)) = w6 := ⟨_, rfl⟩
            have hb6 : Below wr.heap.size wr w6 := by rw [← hw6]; exact (Below.refl _ _).alloc (Nat.le_refl _) _
            have x6 : w6.heap[X6]? = some (.cells #[.string ⟨fnm.toArray⟩, .int .u8 ft.k, .string ⟨ft.nm.toArray⟩, .int .i64 ft.n] 77 (0, 0)) := by rw [← hw6, ← hX6]; exact heap_alloc_new wr _
            have O6 := Lib.hid (TxOut.refl (HO.out.st.keep hb6))
            have HTr : Hid (∀ t' W', TxOut Bb wB t' w6 W' → TxOut Bb wB t' wA W') := Lib.hid fun t' W' o => (HO.out.below hb6).trans o
            have hX6B : X6 ≠ Bb := by have := HO.out.st.lt; omega
            have HRow6 : Hid (∀ W', Stay Bb w6 W' → W'.heap[X6]? = some (.cells #[.string ⟨fnm.toArray⟩, .int .u8 ft.k, .string ⟨ft.nm.toArray⟩, .int .i64 ft.n] 77 (0, 0))) := Lib.hid fun W' hs => hs X6 _ x6 hX6B (fun cs fz e => by injection e with _ e; exact absurd e (by decide))
            have HN6 := Lib.hid (And.intro hX6 hw6)
            clear x6 hb6 hX6B hX6 hw6
            clear hrow hIr hdrop hs hmem hC hC1 hsI HO
            rw [hda]
            go_wp2_with fail
            simp only [HN6.out.1, HN6.out.2]
            clear z0 z1 z2 z3
            refine (put_any' Bb wB (acc) [115, 104, 97, 114, 101, 100, 32] _ rfl w6 O6.out.st (by have := HLn.out; simp at this ⊢; omega)).mono ?_
            rintro e w7 ⟨rfl, hO⟩
            have O7 := Lib.hid (O6.out.trans hO)
            clear hO
            have row := HRow6.out _ O7.out.stay
            have r0 := cell_at row 0
            have r1 := cell_at row 1
            have r2 := cell_at row 2
            have r3 := cell_at row 3
            simp only [List.getElem?_toArray, List.getElem?_cons_zero, List.getElem?_cons_succ] at r0 r1 r2 r3
            clear row
            go_wp2_with fail
            obtain ⟨w8, hw8⟩ : ∃ w8, w7.alloc (.cells #[.string ⟨fnm.toArray⟩, .int .u8 ft.k, .string ⟨ft.nm.toArray⟩, .int .i64 ft.n] 77 (0, 0)) = w8 := ⟨_, rfl⟩
            have hb8 : Below w7.heap.size w7 w8 := by rw [← hw8]; exact (Below.refl _ _).alloc (Nat.le_refl _) _
            have x8 : w8.heap[w7.heap.size]? = some (.cells #[.string ⟨fnm.toArray⟩, .int .u8 ft.k, .string ⟨ft.nm.toArray⟩, .int .i64 ft.n] 77 (0, 0)) := by rw [← hw8]; exact heap_alloc_new w7 _
            have hS7 : w7.heap.size ≠ Bb := by have := O7.out.st.lt; omega
            have O8 := Lib.hid (TxOut.refl (O7.out.st.keep hb8))
            have HTr8 : Hid (∀ t' W', TxOut Bb wB t' w8 W' → TxOut Bb wB t' w6 W') := Lib.hid fun t' W' o => (O7.out.below hb8).trans o
            have HFs : Hid (∀ t' W', TxOut Bb wB t' w8 W' → FlsIn W' W'.heap.size ⟨some ⟨w7.heap.size, 0, none⟩, 1⟩ [⟨fnm, ft⟩]) := Lib.hid fun t' W' o => by
              have x9 := o.stay _ _ x8 hS7 (flObj_ne ⟨fnm, ft⟩)
              exact ⟨by unfold lenOk; simp, fun _ => ⟨_, 0, rfl, lt_of_blk x9, fun i y hy => by
                match i, hy with
                | 0, hy => cases hy; exact ⟨cell_at x9 0, cell_at x9 1, cell_at x9 2, cell_at x9 3⟩
                | n + 1, hy => simp at hy⟩, fun f hf => by rw [List.mem_singleton] at hf; subst hf; exact HsI.out⟩
            rw [hw8]
            have CF := sfields_any Bb wB HG [] ⟨some ⟨w7.heap.size, 0, none⟩, 1⟩ [⟨fnm, ft⟩] _ w8 O8.out.st HFs (by have := HLn.out; simp at this ⊢; omega)
            rw [show ([⟨fnm, ft⟩] : List Fl).length = 1 from rfl] at CF
            clear x8 hb8 hw8 hS7 r0 r1 r2 r3
            refine CF.mono ?_
            rintro e w9 ⟨rfl, hO⟩
            have O9 := Lib.hid (HTr8.out _ _ (O8.out.trans hO))
            clear hO CF
            go_wp2_with fail
            refine (put_any' Bb wB (acc ++ [115, 104, 97, 114, 101, 100, 32] ++ flsText [] [⟨fnm, ft⟩]) [59, 10] _ rfl w9 O9.out.st (by have := HLn.out; simp at this ⊢; omega)).mono ?_
            rintro e wx ⟨rfl, hO⟩
            have OX := Lib.hid (O9.out.trans hO)
            clear hO
            have OZ := Lib.hid (HTr.out _ _ OX.out)
            clear O6 O7 O8 O9 OX HRow6 HTr HTr8 HFs HN6
            go_wp2_with fail
            go_roundw
            case rel => exact ⟨j + 1, _, by go_num, by omega, OZ, HA⟩
            case measure => simp [intOf]; omega
          · obtain rfl : j = p.ss.length := by omega
            obtain rfl : acc = prHead p := by have h := hC.out; rw [List.drop_length] at h; simpa using h
            have row := HRowX.out _ HO.out.st.bel
            have q0 := cell_at row 0
            have q1 := cell_at row 1
            have q2 := cell_at row 2
            have q3 := cell_at row 3
            clear row
            simp only [List.getElem?_toArray, List.getElem?_cons_zero, List.getElem?_cons_succ] at q0 q1 q2 q3
            have HR0 : Hid (wFus (prHead p) (p.fs.drop 0) = wFus (prHead p) p.fs) := Lib.hid (by rw [List.drop_zero])
            have HL0 : Hid ((prHead p).length + (((p.fs.drop 0).map fuText).flatten.length + (p.ts.map thText).flatten.length) ≤ 20000000) := Lib.hid (by rw [List.drop_zero]; have h1 := HPh.out; have h2 := HNN.out; rw [← h1]; simp only [List.length_append]; omega)
            obtain ⟨V, hV⟩ : ∃ V, wFus (prHead p) p.fs = V := ⟨_, rfl⟩
            rw [hV] at HR0
            have HV := Lib.hid hV
            clear hC HSS HPl HPh hV
            have HOn := HO
            clear HO
            go_wp2_with fail
            go_loopw [68] (fun ii wr => ∃ (j : Nat) (acc : List UInt8), ii = .int .i64 j ∧ j ≤ p.fs.length ∧ Hid (TxOut Bb wB acc wA wr) ∧ Hid (wFus acc (p.fs.drop j) = V) ∧ Hid (acc.length + (((p.fs.drop j).map fuText).flatten.length + (p.ts.map thText).flatten.length) ≤ 20000000)) (fun ii _ => p.fs.length - (intOf ii).toNat)
            case atStart => exact ⟨0, _, rfl, Nat.zero_le _, HOn, HR0, HL0⟩
            case round =>
              obtain ⟨j, acc, rfl, hj, HO, hC, hL⟩ := hrel
              clear HR0 HOn HL0
              have p2 : (0 : Int) ≤ (j : Int) := Int.natCast_nonneg _
              by_cases hlt : j < p.fs.length
              ·
                obtain ⟨s, hs⟩ : ∃ s, p.fs[j]? = some s := ⟨_, List.getElem?_eq_getElem hlt⟩
                have hdrop : p.fs.drop j = s :: p.fs.drop (j + 1) := by
                  have := List.drop_eq_getElem_cons hlt
                  rw [List.getElem?_eq_getElem hlt] at hs
                  injection hs with hs
                  rw [this, hs]
                have hmem := List.mem_of_getElem? hs
                have hIr := HIB.out.keep HO.out.st.bel (Nat.le_refl Bb)
                obtain ⟨rb, ro, hda, hrb, hrow⟩ := hIr.frow (by intro h0; rw [h0] at hlt; simp at hlt)
                obtain ⟨z0, z1, z2, z3, z4, z5⟩ := hrow j s hs
                have hsI := HIB.out.fsub s hmem
                have hC1 := hC.out
                have hL1 := hL.out
                rw [hdrop, wFus] at hC1
                rw [hdrop, List.map_cons, List.flatten_cons, fuText_is] at hL1
                obtain ⟨hsg, hps, hty, a, a', hck⟩ := HGd.out.funs.2 s hmem
                have hnl := (nameB_len hsg).1
                have hcnt : stCounts s.body ≤ 1024 := by have h1 := sum_mem (fun f : Fu => stCounts f.body) p.fs s hmem; have h2 := HGd.out.items; unfold itemsOf at h2; omega
                have hws := (wSts_is (acc ++ fuHead s) s.body [32, 32]).2
                obtain ⟨nm, pd, ps, ft, bd, body⟩ := s
                dsimp only at z0 z1 z2 z3 z4 z5 hsI hC1 hL1 hnl hcnt hck hws
                have HBl : Hid (ListC Bb wB bd body) := Lib.hid (slist_any Bb wB HG _ body (Nat.le_refl _) bd hsI.body ⟨1, a, a', hck⟩)
                have HOk := Lib.hid hsI.t
                have HFs : Hid (∀ t' W', TxOut Bb wB t' wA W' → FlsIn W' W'.heap.size pd ps) := Lib.hid fun t' W' o => hsI.ps.keep o.st.bel (Nat.le_of_lt o.st.lt)
                have HLn : Hid (acc.length + (5 + nm.length + 1 + (flsText [44, 32] ps).length + 2 + (if noTy ft then [] else tyText ft ++ [32]).length + 2) ≤ 20000000) := Lib.hid (by simp [fuHead] at hL1 ⊢; omega)
                have HLb : Hid (2 + 2 * stCounts body ≤ 1000000 ∧ (acc ++ fuHead ⟨nm, pd, ps, ft, bd, body⟩).length + ((stTexts body [32, 32]).length + 2) ≤ 20000000) := Lib.hid ⟨by omega, by simp at hL1 ⊢; omega⟩
                obtain ⟨ws, hw⟩ : ∃ ws, wSts (acc ++ fuHead ⟨nm, pd, ps, ft, bd, body⟩) body [32, 32] = ws := ⟨_, rfl⟩
                have HWs := Lib.hid hw
                rw [hw] at hC1 hws
                have HA := Lib.hid hC1
                have HLw : Hid ((ws ++ ([125] ++ [10])).length + (((p.fs.drop (j + 1)).map fuText).flatten.length + (p.ts.map thText).flatten.length) ≤ 20000000) := Lib.hid (by simp at hL1 hws ⊢; omega)
                have c1 : ¬ (9223372036854775807 < 5 + nm.length) := by omega
                have c2 : ¬ (9223372036854775807 < 5 + nm.length + 1) := by omega
                have p1 : (j : Int) < (p.fs.length : Int) := by omega
                have p3 : p.fs.length ≤ 140737488355328 := by have := HGd.out.funs.1; omega
                obtain ⟨X6, hX6⟩ : ∃ X6, wr.heap.size = X6 := ⟨_, rfl⟩
                obtain ⟨w6, hw6⟩ : ∃ w6, wr.alloc (.cells #[.string ⟨nm.toArray⟩, .slice pd.a ps.length pd.c, .int .u8 ft.k, .string ⟨ft.nm.toArray⟩, .int .i64 ft.n, .slice bd.a body.length bd.c] 79 (0, 0)) = w6 := ⟨_, rfl⟩
                have hb6 : Below wr.heap.size wr w6 := by rw [← hw6]; exact (Below.refl _ _).alloc (Nat.le_refl _) _
                have x6 : w6.heap[X6]? = some (.cells #[.string ⟨nm.toArray⟩, .slice pd.a ps.length pd.c, .int .u8 ft.k, .string ⟨ft.nm.toArray⟩, .int .i64 ft.n, .slice bd.a body.length bd.c] 79 (0, 0)) := by rw [← hw6, ← hX6]; exact heap_alloc_new wr _
                have O6 := Lib.hid (TxOut.refl (HO.out.st.keep hb6))
                have HTr : Hid (∀ t' W', TxOut Bb wB t' w6 W' → TxOut Bb wB t' wA W') := Lib.hid fun t' W' o => (HO.out.below hb6).trans o
                have hX6B : X6 ≠ Bb := by have := HO.out.st.lt; omega
                have HRow6 : Hid (∀ W', Stay Bb w6 W' → W'.heap[X6]? = some (.cells #[.string ⟨nm.toArray⟩, .slice pd.a ps.length pd.c, .int .u8 ft.k, .string ⟨ft.nm.toArray⟩, .int .i64 ft.n, .slice bd.a body.length bd.c] 79 (0, 0))) := Lib.hid fun W' hs => hs X6 _ x6 hX6B (fun cs fz e => by injection e with _ e; exact absurd e (by decide))
                have HN6 := Lib.hid (And.intro hX6 hw6)
                clear x6 hb6 hX6B hX6 hw6
                clear hrow hIr hdrop hs hmem hC hC1 hL hL1 hsg hnl hsI HO hps hty hck hcnt hws hw
                rw [hda]
                go_wp2_with fail
                simp only [HN6.out.1, HN6.out.2]
                clear z0 z1 z2 z3 z4 z5
                refine wp_region_L (l := 7) (S := (fun W' => W'.cell? ⟨X6, 0, none⟩ = some (.string ⟨nm.toArray⟩))) (by kernel_rfl) ?_ (fun hHeld => ?_)
                · ((try dsimp only); (exact cell_at (HRow6.out _ (Stay.refl _ _)) 0))
                refine wpAnyL_take (i := 0) (oi := _) (v := ?v9) rfl (by kernel_rfl) (fun _ _ _ h => h) (by assumption) (Or.inl ⟨by kernel_rfl, ?y9⟩) ?r9
                case y9 => (intro w hSw; (try dsimp only at hSw); go_simp; all_goals with_reducible rfl)
                try simp only [List.getElem_toArray, List.getElem_cons_zero, List.getElem_cons_succ, Act.put, List.setIfInBounds_toArray, List.set_cons_zero, List.set_cons_succ]
                refine wpAnyL_take (i := 1) (oi := _) (v := ?v10) rfl (by kernel_rfl) (fun _ _ _ h => h) (by assumption) (Or.inl ⟨by kernel_rfl, ?y10⟩) ?r10
                case y10 => (intro w hSw; (try dsimp only at hSw); go_simp; all_goals with_reducible rfl)
                try simp only [List.getElem_toArray, List.getElem_cons_zero, List.getElem_cons_succ, Act.put, List.setIfInBounds_toArray, List.set_cons_zero, List.set_cons_succ]
                refine wpAnyL_take (i := 2) (oi := _) (v := ?v11) rfl (by kernel_rfl) (fun _ _ _ h => h) (by assumption) (Or.inl ⟨by kernel_rfl, ?y11⟩) ?r11
                case y11 => (intro w hSw; (try dsimp only at hSw); go_simp; all_goals with_reducible rfl)
                try simp only [List.getElem_toArray, List.getElem_cons_zero, List.getElem_cons_succ, Act.put, List.setIfInBounds_toArray, List.set_cons_zero, List.set_cons_succ]
                refine wpAnyL_take (i := 3) (oi := _) (v := ?v12) rfl (by kernel_rfl) (fun _ _ _ h => h) (by assumption) (Or.inl ⟨by kernel_rfl, ?y12⟩) ?r12
                case y12 => (intro w hSw; (try dsimp only at hSw); go_simp; all_goals with_reducible rfl)
                try simp only [List.getElem_toArray, List.getElem_cons_zero, List.getElem_cons_succ, Act.put, List.setIfInBounds_toArray, List.set_cons_zero, List.set_cons_succ]
                refine wpAnyL_take (i := 4) (oi := _) (v := ?v13) rfl (by kernel_rfl) (fun _ _ _ h => h) (by assumption) (Or.inl ⟨by kernel_rfl, ?y13⟩) ?r13
                case y13 => (intro w hSw; (try dsimp only at hSw); go_simp; all_goals with_reducible rfl)
                try simp only [List.getElem_toArray, List.getElem_cons_zero, List.getElem_cons_succ, Act.put, List.setIfInBounds_toArray, List.set_cons_zero, List.set_cons_succ]
                refine wpAnyL_take (i := 5) (oi := _) (v := ?v14) rfl (by kernel_rfl) (fun _ _ _ h => h) (by assumption) (Or.inl ⟨by kernel_rfl, ?y14⟩) ?r14
                case y14 => (intro w hSw; (try dsimp only at hSw); go_simp; all_goals with_reducible rfl)
                try simp only [List.getElem_toArray, List.getElem_cons_zero, List.getElem_cons_succ, Act.put, List.setIfInBounds_toArray, List.set_cons_zero, List.set_cons_succ]
                refine wpAnyL_take (i := 6) (oi := _) (v := ?v15) rfl (by kernel_rfl) (fun _ _ _ h => h) (by assumption) (Or.inl ⟨by kernel_rfl, ?y15⟩) ?r15
                case y15 => (intro w hSw; (try dsimp only at hSw); go_simp; all_goals with_reducible rfl)
                try simp only [List.getElem_toArray, List.getElem_cons_zero, List.getElem_cons_succ, Act.put, List.setIfInBounds_toArray, List.set_cons_zero, List.set_cons_succ]
                refine wpAnyL_last (j := 7) (o := _) (by kernel_rfl) rfl (by rfl) (by kernel_rfl) (fun K hK => ?_)
                (go_simp; go_at_call 25; refine (put_any' Bb wB acc ([102, 117, 110, 99, 32] ++ nm ++ [40]) _ (cat_b3 [102, 117, 110, 99, 32] nm [40]) _ (O6.out.below (Below.refl _ _).drew).st (by have := HLn.out; simp at this ⊢; omega)).mono ?_; rintro e w7 ⟨rfl, hO⟩; have O7 := Lib.hid ((O6.out.below (Below.refl _ _).drew).trans hO); clear hO)
                (refine hK _ _ ?_; clear hK K)
                try simp only [List.getElem_toArray, List.getElem_cons_zero, List.getElem_cons_succ, Act.put, List.setIfInBounds_toArray, List.set_cons_zero, List.set_cons_succ]
                clear hHeld c1 c2
                have row := HRow6.out _ O7.out.stay
                have r1 := cell_at row 1
                simp only [List.getElem?_toArray, List.getElem?_cons_zero, List.getElem?_cons_succ] at r1
                clear row
                go_wp2_with fail
                refine (sfields_any Bb wB HG [44, 32] pd ps _ w7 O7.out.st (Lib.hid fun t' W' o => HFs.out t' W' (HTr.out _ _ (O7.out.trans o))) (by have := HLn.out; simp at this ⊢; omega)).mono ?_
                rintro e w8 ⟨rfl, hO⟩
                have O8 := Lib.hid (O7.out.trans hO)
                clear hO r1
                go_wp2_with fail
                refine (put_any' Bb wB (acc ++ ([102, 117, 110, 99, 32] ++ nm ++ [40]) ++ flsText [44, 32] ps) [41, 32] _ rfl w8 O8.out.st (by have := HLn.out; simp at this ⊢; omega)).mono ?_
                rintro e w9 ⟨rfl, hO⟩
                have O9 := Lib.hid (O8.out.trans hO)
                clear hO
                clear O7 O8 HFs
                have row := HRow6.out _ O9.out.stay
                have r2 := cell_at row 2
                have r3 := cell_at row 3
                have r4 := cell_at row 4
                simp only [List.getElem?_toArray, List.getElem?_cons_zero, List.getElem?_cons_succ] at r2 r3 r4
                clear row
                by_cases h1 : ft.k = 0
                · by_cases h2 : ft.nm = []
                  · by_cases h3 : ft.n = 0
                    · have hnt : noTy ft = true := by simp [noTy, h1, h2, h3]
                      have row := HRow6.out _ O9.out.stay
                      have r5 := cell_at row 5
                      simp only [List.getElem?_toArray, List.getElem?_cons_zero, List.getElem?_cons_succ] at r5
                      clear row
                      have HEq : Hid (acc ++ ([102, 117, 110, 99, 32] ++ nm ++ [40]) ++ flsText [44, 32] ps ++ [41, 32] ++ [123, 10] = acc ++ fuHead ⟨nm, pd, ps, ft, bd, body⟩) := Lib.hid (by simp only [fuHead]; rw [hnt]; simp)
                      go_wp2_with fail
                      refine (sblock_of Bb wB bd body [] HBl.out (acc ++ ([102, 117, 110, 99, 32] ++ nm ++ [40]) ++ flsText [44, 32] ps ++ [41, 32]) w9 O9.out.st (by have := HLb.out.1; simp; omega) (by have h1 := HLb.out.2; have h2 := congrArg List.length HEq.out; simp at h1 h2 ⊢; omega)).mono ?_
                      rintro e wb ⟨rfl, hO⟩
                      rw [HEq.out] at hO
                      have OB := Lib.hid (O9.out.trans hO)
                      clear hO r5
                      have HOs : Hid (wSts (acc ++ fuHead ⟨nm, pd, ps, ft, bd, body⟩) body ([] ++ [32, 32]) ++ ([] ++ [125]) = ws ++ [125]) := Lib.hid (by rw [← HWs.out]; rfl)
                      rw [HOs.out] at OB
                      go_wp2_with fail
                      refine (put_any' Bb wB (ws ++ [125]) [10] _ rfl wb OB.out.st (by have := HLw.out; simp at this ⊢; omega)).mono ?_
                      rintro e wc ⟨rfl, hO⟩
                      have OC := Lib.hid (OB.out.trans hO)
                      clear hO
                      have OZ := Lib.hid ((HTr.out _ _ OC.out).eq (show ws ++ [125] ++ [10] = ws ++ ([125] ++ [10]) by simp))
                      clear OB OC HEq HOs HRow6 HTr HN6 O6
                      go_wp2_with fail
                      go_roundw
                      case rel => exact ⟨j + 1, _, by go_num, by omega, OZ, HA, HLw⟩
                      case measure => simp [intOf]; omega
                    ·
                      have hnt : noTy ft = false := by simp [noTy, h3]
                      have CT := styp_any Bb wB (acc ++ ([102, 117, 110, 99, 32] ++ nm ++ [40]) ++ flsText [44, 32] ps ++ [41, 32]) ft w9 O9.out.st (HG.out _ O9.out.st.bel) HOk.out (by have := HLn.out; rw [hnt] at this; simp at this ⊢; omega)
                      simp only [Ty.val, h1, h2] at CT
                      go_wp2_with fail
                      refine CT.mono ?_
                      rintro e wd ⟨rfl, hO⟩
                      have OD := Lib.hid (O9.out.trans hO)
                      clear hO h1 h2 h3 CT r2 r3 r4
                      go_wp2_with fail
                      refine (put_any' Bb wB (acc ++ ([102, 117, 110, 99, 32] ++ nm ++ [40]) ++ flsText [44, 32] ps ++ [41, 32] ++ tyText ft) [32] _ rfl wd OD.out.st (by have := HLn.out; rw [hnt] at this; simp at this ⊢; omega)).mono ?_
                      rintro e we ⟨rfl, hO⟩
                      have OE := Lib.hid (OD.out.trans hO)
                      clear hO
                      have row := HRow6.out _ OE.out.stay
                      have r5 := cell_at row 5
                      simp only [List.getElem?_toArray, List.getElem?_cons_zero, List.getElem?_cons_succ] at r5
                      clear row
                      have HEq : Hid (acc ++ ([102, 117, 110, 99, 32] ++ nm ++ [40]) ++ flsText [44, 32] ps ++ [41, 32] ++ tyText ft ++ [32] ++ [123, 10] = acc ++ fuHead ⟨nm, pd, ps, ft, bd, body⟩) := Lib.hid (by simp only [fuHead]; rw [hnt]; simp)
                      go_wp2_with fail
                      refine (sblock_of Bb wB bd body [] HBl.out (acc ++ ([102, 117, 110, 99, 32] ++ nm ++ [40]) ++ flsText [44, 32] ps ++ [41, 32] ++ tyText ft ++ [32]) we OE.out.st (by have := HLb.out.1; simp; omega) (by have h1 := HLb.out.2; have h2 := congrArg List.length HEq.out; simp at h1 h2 ⊢; omega)).mono ?_
                      rintro e wb ⟨rfl, hO⟩
                      rw [HEq.out] at hO
                      have OB := Lib.hid (OE.out.trans hO)
                      clear hO r5
                      have HOs : Hid (wSts (acc ++ fuHead ⟨nm, pd, ps, ft, bd, body⟩) body ([] ++ [32, 32]) ++ ([] ++ [125]) = ws ++ [125]) := Lib.hid (by rw [← HWs.out]; rfl)
                      rw [HOs.out] at OB
                      go_wp2_with fail
                      refine (put_any' Bb wB (ws ++ [125]) [10] _ rfl wb OB.out.st (by have := HLw.out; simp at this ⊢; omega)).mono ?_
                      rintro e wc ⟨rfl, hO⟩
                      have OC := Lib.hid (OB.out.trans hO)
                      clear hO
                      have OZ := Lib.hid ((HTr.out _ _ OC.out).eq (show ws ++ [125] ++ [10] = ws ++ ([125] ++ [10]) by simp))
                      clear OB OC HEq HOs HRow6 HTr HN6 O6
                      go_wp2_with fail
                      go_roundw
                      case rel => exact ⟨j + 1, _, by go_num, by omega, OZ, HA, HLw⟩
                      case measure => simp [intOf]; omega
                  ·
                    have hnt : noTy ft = false := by simp [noTy, h2]
                    have CT := styp_any Bb wB (acc ++ ([102, 117, 110, 99, 32] ++ nm ++ [40]) ++ flsText [44, 32] ps ++ [41, 32]) ft w9 O9.out.st (HG.out _ O9.out.st.bel) HOk.out (by have := HLn.out; rw [hnt] at this; simp at this ⊢; omega)
                    simp only [Ty.val, h1] at CT
                    go_wp2_with fail
                    refine CT.mono ?_
                    rintro e wd ⟨rfl, hO⟩
                    have OD := Lib.hid (O9.out.trans hO)
                    clear hO h1 h2 CT r2 r3 r4
                    go_wp2_with fail
                    refine (put_any' Bb wB (acc ++ ([102, 117, 110, 99, 32] ++ nm ++ [40]) ++ flsText [44, 32] ps ++ [41, 32] ++ tyText ft) [32] _ rfl wd OD.out.st (by have := HLn.out; rw [hnt] at this; simp at this ⊢; omega)).mono ?_
                    rintro e we ⟨rfl, hO⟩
                    have OE := Lib.hid (OD.out.trans hO)
                    clear hO
                    have row := HRow6.out _ OE.out.stay
                    have r5 := cell_at row 5
                    simp only [List.getElem?_toArray, List.getElem?_cons_zero, List.getElem?_cons_succ] at r5
                    clear row
                    have HEq : Hid (acc ++ ([102, 117, 110, 99, 32] ++ nm ++ [40]) ++ flsText [44, 32] ps ++ [41, 32] ++ tyText ft ++ [32] ++ [123, 10] = acc ++ fuHead ⟨nm, pd, ps, ft, bd, body⟩) := Lib.hid (by simp only [fuHead]; rw [hnt]; simp)
                    go_wp2_with fail
                    refine (sblock_of Bb wB bd body [] HBl.out (acc ++ ([102, 117, 110, 99, 32] ++ nm ++ [40]) ++ flsText [44, 32] ps ++ [41, 32] ++ tyText ft ++ [32]) we OE.out.st (by have := HLb.out.1; simp; omega) (by have h1 := HLb.out.2; have h2 := congrArg List.length HEq.out; simp at h1 h2 ⊢; omega)).mono ?_
                    rintro e wb ⟨rfl, hO⟩
                    rw [HEq.out] at hO
                    have OB := Lib.hid (OE.out.trans hO)
                    clear hO r5
                    have HOs : Hid (wSts (acc ++ fuHead ⟨nm, pd, ps, ft, bd, body⟩) body ([] ++ [32, 32]) ++ ([] ++ [125]) = ws ++ [125]) := Lib.hid (by rw [← HWs.out]; rfl)
                    rw [HOs.out] at OB
                    go_wp2_with fail
                    refine (put_any' Bb wB (ws ++ [125]) [10] _ rfl wb OB.out.st (by have := HLw.out; simp at this ⊢; omega)).mono ?_
                    rintro e wc ⟨rfl, hO⟩
                    have OC := Lib.hid (OB.out.trans hO)
                    clear hO
                    have OZ := Lib.hid ((HTr.out _ _ OC.out).eq (show ws ++ [125] ++ [10] = ws ++ ([125] ++ [10]) by simp))
                    clear OB OC HEq HOs HRow6 HTr HN6 O6
                    go_wp2_with fail
                    go_roundw
                    case rel => exact ⟨j + 1, _, by go_num, by omega, OZ, HA, HLw⟩
                    case measure => simp [intOf]; omega
                ·
                  have hnt : noTy ft = false := by simp [noTy, h1]
                  have CT := styp_any Bb wB (acc ++ ([102, 117, 110, 99, 32] ++ nm ++ [40]) ++ flsText [44, 32] ps ++ [41, 32]) ft w9 O9.out.st (HG.out _ O9.out.st.bel) HOk.out (by have := HLn.out; rw [hnt] at this; simp at this ⊢; omega)
                  skip
                  go_wp2_with fail
                  refine CT.mono ?_
                  rintro e wd ⟨rfl, hO⟩
                  have OD := Lib.hid (O9.out.trans hO)
                  clear hO h1 CT r2 r3 r4
                  go_wp2_with fail
                  refine (put_any' Bb wB (acc ++ ([102, 117, 110, 99, 32] ++ nm ++ [40]) ++ flsText [44, 32] ps ++ [41, 32] ++ tyText ft) [32] _ rfl wd OD.out.st (by have := HLn.out; rw [hnt] at this; simp at this ⊢; omega)).mono ?_
                  rintro e we ⟨rfl, hO⟩
                  have OE := Lib.hid (OD.out.trans hO)
                  clear hO
                  have row := HRow6.out _ OE.out.stay
                  have r5 := cell_at row 5
                  simp only [List.getElem?_toArray, List.getElem?_cons_zero, List.getElem?_cons_succ] at r5
                  clear row
                  have HEq : Hid (acc ++ ([102, 117, 110, 99, 32] ++ nm ++ [40]) ++ flsText [44, 32] ps ++ [41, 32] ++ tyText ft ++ [32] ++ [123, 10] = acc ++ fuHead ⟨nm, pd, ps, ft, bd, body⟩) := Lib.hid (by simp only [fuHead]; rw [hnt]; simp)
                  go_wp2_with fail
                  refine (sblock_of Bb wB bd body [] HBl.out (acc ++ ([102, 117, 110, 99, 32] ++ nm ++ [40]) ++ flsText [44, 32] ps ++ [41, 32] ++ tyText ft ++ [32]) we OE.out.st (by have := HLb.out.1; simp; omega) (by have h1 := HLb.out.2; have h2 := congrArg List.length HEq.out; simp at h1 h2 ⊢; omega)).mono ?_
                  rintro e wb ⟨rfl, hO⟩
                  rw [HEq.out] at hO
                  have OB := Lib.hid (OE.out.trans hO)
                  clear hO r5
                  have HOs : Hid (wSts (acc ++ fuHead ⟨nm, pd, ps, ft, bd, body⟩) body ([] ++ [32, 32]) ++ ([] ++ [125]) = ws ++ [125]) := Lib.hid (by rw [← HWs.out]; rfl)
                  rw [HOs.out] at OB
                  go_wp2_with fail
                  refine (put_any' Bb wB (ws ++ [125]) [10] _ rfl wb OB.out.st (by have := HLw.out; simp at this ⊢; omega)).mono ?_
                  rintro e wc ⟨rfl, hO⟩
                  have OC := Lib.hid (OB.out.trans hO)
                  clear hO
                  have OZ := Lib.hid ((HTr.out _ _ OC.out).eq (show ws ++ [125] ++ [10] = ws ++ ([125] ++ [10]) by simp))
                  clear OB OC HEq HOs HRow6 HTr HN6 O6
                  go_wp2_with fail
                  go_roundw
                  case rel => exact ⟨j + 1, _, by go_num, by omega, OZ, HA, HLw⟩
                  case measure => simp [intOf]; omega
              · obtain rfl : j = p.fs.length := by omega
                obtain rfl : acc = V := by have h := hC.out; rw [List.drop_length, wFus] at h; exact h
                have HL0 : Hid (acc.length + ((p.ts.drop 0).map thText).flatten.length ≤ 20000000) := Lib.hid (by have h := hL.out; rw [List.drop_length] at h; simpa using h)
                obtain ⟨V2, hV2⟩ : ∃ V2, wPr p = V2 := ⟨_, rfl⟩
                have HR0 : Hid (wThs acc (p.ts.drop 0) = V2) := Lib.hid (by rw [List.drop_zero, ← hV2]; unfold wPr; rw [HV.out])
                rw [hV2] at HNe HR
                clear hC hL hV2 HV
                have row := HRowX.out _ HO.out.st.bel
                have q0 := cell_at row 0
                have q1 := cell_at row 1
                have q2 := cell_at row 2
                have q3 := cell_at row 3
                clear row
                simp only [List.getElem?_toArray, List.getElem?_cons_zero, List.getElem?_cons_succ] at q0 q1 q2 q3
                have HOn := HO
                clear HO
                go_wp2_with fail
                go_loopw [112] (fun ii wr => ∃ (j : Nat) (acc : List UInt8), ii = .int .i64 j ∧ j ≤ p.ts.length ∧ Hid (TxOut Bb wB acc wA wr) ∧ Hid (wThs acc (p.ts.drop j) = V2) ∧ Hid (acc.length + ((p.ts.drop j).map thText).flatten.length ≤ 20000000)) (fun ii _ => p.ts.length - (intOf ii).toNat)
                case atStart => exact ⟨0, _, rfl, Nat.zero_le _, HOn, HR0, HL0⟩
                case round =>
                  obtain ⟨j, acc, rfl, hj, HO, hC, hL⟩ := hrel
                  clear HR0 HOn HL0
                  have p2 : (0 : Int) ≤ (j : Int) := Int.natCast_nonneg _
                  by_cases hlt : j < p.ts.length
                  ·
                    obtain ⟨s, hs⟩ : ∃ s, p.ts[j]? = some s := ⟨_, List.getElem?_eq_getElem hlt⟩
                    have hdrop : p.ts.drop j = s :: p.ts.drop (j + 1) := by
                      have := List.drop_eq_getElem_cons hlt
                      rw [List.getElem?_eq_getElem hlt] at hs
                      injection hs with hs
                      rw [this, hs]
                    have hmem := List.mem_of_getElem? hs
                    have hIr := HIB.out.keep HO.out.st.bel (Nat.le_refl Bb)
                    obtain ⟨rb, ro, hda, hrb, hrow⟩ := hIr.trow (by intro h0; rw [h0] at hlt; simp at hlt)
                    obtain ⟨z0⟩ := hrow j s hs
                    have hsI := HIB.out.tsub s hmem
                    have hC1 := hC.out
                    have hL1 := hL.out
                    rw [hdrop, wThs] at hC1
                    rw [hdrop, List.map_cons, List.flatten_cons, thText_is] at hL1
                    obtain ⟨a, a', hck⟩ := HGd.out.thrs.2 s hmem
                    have hcnt : stCounts s.l ≤ 1024 := by have h1 := sum_mem (fun t : Th => stCounts t.l) p.ts s hmem; have h2 := HGd.out.items; unfold itemsOf at h2; omega
                    have hws := (wSts_is (acc ++ ([116, 104, 114, 101, 97, 100, 32] ++ [123, 10])) s.l [32, 32]).2
                    obtain ⟨td, tl⟩ := s
                    dsimp only at z0 hsI hC1 hL1 hcnt hck hws
                    rw [Nat.mul_one] at z0
                    have HBl : Hid (ListC Bb wB td tl) := Lib.hid (slist_any Bb wB HG _ tl (Nat.le_refl _) td hsI ⟨1, a, a', hck⟩)
                    have HLb : Hid (2 + 2 * stCounts tl ≤ 1000000 ∧ acc.length + 9 + ((stTexts tl [32, 32]).length + 2) ≤ 20000000) := Lib.hid ⟨by omega, by simp at hL1 ⊢; omega⟩
                    obtain ⟨ws, hw⟩ : ∃ ws, wSts (acc ++ ([116, 104, 114, 101, 97, 100, 32] ++ [123, 10])) tl [32, 32] = ws := ⟨_, rfl⟩
                    have HWs := Lib.hid hw
                    rw [hw] at hC1 hws
                    have HA := Lib.hid hC1
                    have HLw : Hid ((ws ++ ([125] ++ [10])).length + ((p.ts.drop (j + 1)).map thText).flatten.length ≤ 20000000) := Lib.hid (by simp at hL1 hws ⊢; omega)
                    have p1 : (j : Int) < (p.ts.length : Int) := by omega
                    have p3 : p.ts.length ≤ 140737488355328 := by have := HGd.out.thrs.1; omega
                    clear hrow hIr hdrop hs hmem hC hC1 hL hL1 hsI hck hcnt hws hw
                    rw [hda]
                    go_wp2_with fail
                    clear z0
                    refine (put_any' Bb wB (acc) [116, 104, 114, 101, 97, 100, 32] _ rfl wr HO.out.st (by have := HLb.out.2; simp at this ⊢; omega)).mono ?_
                    rintro e w7 ⟨rfl, hO⟩
                    have O7 := Lib.hid (HO.out.trans hO)
                    clear hO
                    go_wp2_with fail
                    refine (sblock_of Bb wB td tl [] HBl.out (acc ++ [116, 104, 114, 101, 97, 100, 32]) w7 O7.out.st (by have := HLb.out.1; simp; omega) (by have h1 := HLb.out.2; simp at h1 ⊢; omega)).mono ?_
                    rintro e wb ⟨rfl, hO⟩
                    rw [show wSts (acc ++ [116, 104, 114, 101, 97, 100, 32] ++ [123, 10]) tl ([] ++ [32, 32]) ++ ([] ++ [125]) = ws ++ [125] by rw [← HWs.out, List.append_assoc]; rfl] at hO
                    have OB := Lib.hid (O7.out.trans hO)
                    clear hO
                    go_wp2_with fail
                    refine (put_any' Bb wB (ws ++ [125]) [10] _ rfl wb OB.out.st (by have := HLw.out; simp at this ⊢; omega)).mono ?_
                    rintro e wc ⟨rfl, hO⟩
                    have OC := Lib.hid (OB.out.trans hO)
                    clear hO
                    have OZ := Lib.hid (OC.out.eq (show ws ++ [125] ++ [10] = ws ++ ([125] ++ [10]) by simp))
                    clear OB OC O7 HO
                    go_wp2_with fail
                    go_roundw
                    case rel => exact ⟨j + 1, _, by go_num, by omega, OZ, HA, HLw⟩
                    case measure => simp [intOf]; omega
                  · obtain rfl : j = p.ts.length := by omega
                    obtain rfl : acc = V2 := by have h := hC.out; rw [List.drop_length, wThs] at h; exact h
                    have HZl : Hid (∀ W', Below Bb wB W' → Below w.heap.size w W') := Lib.hid fun W' hb => HwB.out.trans (hb.mono HBBb.out)
                    have CS := sshort_any Bb wB acc wr HO.out.st HNe.out (by have h := hL.out; omega)
                    by_cases hbig : 65536 < acc.length
                    · rw [if_pos hbig] at CS HR
                      obtain rfl : R = ([], 3) := HR.out
                      clear hC hL hbig
                      go_wp2_with fail
                      refine CS.mono ?_
                      rintro e wz ⟨rfl, hbz⟩
                      have HZ := Lib.hid (HZl.out _ hbz)
                      clear hbz CS
                      go_wp2_with fail
                      go_ret2
                      exact ⟨rfl, HZ.out⟩
                    · rw [if_neg hbig] at CS HR
                      obtain rfl : R = (acc, 0) := HR.out
                      clear hC hL hbig
                      go_wp2_with fail
                      refine CS.mono ?_
                      rintro e wz ⟨rfl, hbz⟩
                      have HZ := Lib.hid (HZl.out _ hbz)
                      clear hbz CS
                      go_wp2_with fail
                      go_ret2
                      exact ⟨rfl, HZ.out⟩
  · have hSh : showPr p = ([], (faultOf p).2) := by unfold showPr; rw [if_pos her]
    rw [hSh]
    have hn2 : ((faultOf p).2 == 0) = false := by simpa using her
    clear hSh her hne hX hw1 hb1 x1 hI GL GG HX1 HSz HGG HI
    generalize (faultOf p).2 = er at *
    go_enter Tryd.func11, Tryd.ntmps11
    go_wp2_with fail
    simp only [HN.out.1, HN.out.2]
    refine CK.out.mono ?_
    rintro e w2 ⟨rfl, hb2⟩
    have HZ := Lib.hid (HB1.out.trans (hb2.mono HB1.out.size))
    clear hb2 CK
    go_wp2_with fail
    go_ret2
    exact ⟨rfl, HZ.out⟩
end Go.Proofs.YtblnmlbkgdncnaaDoor
