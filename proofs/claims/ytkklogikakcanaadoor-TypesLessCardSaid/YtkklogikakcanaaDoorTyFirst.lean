/-
  TypesFirst: the law, walked.
-/
import Derived.Test.YtkklogikakcanaaDoorTyAlive
import Derived.Test.YtkklogikakcanaaDoorTwG
set_option linter.unusedVariables false
set_option linter.unusedSimpArgs false
namespace Go.Proofs.YtkklogikakcanaaDoor
open Go Go.RowKit

mutual
theorem plSt_all : ∀ s : St, plSt s ≤ stAll s
  | .mk k nm t x y bd body ed els => by
    rw [plSt, stAll]
    have := plSts_all body
    have := plSts_all els
    omega
theorem plSts_all : ∀ l : List St, plSts l ≤ stAlls l
  | [] => by rw [plSts, stAlls]; exact Nat.le_refl _
  | s :: r => by
    rw [plSts, stAlls]
    have := plSt_all s
    have := plSts_all r
    omega
end
theorem places_small {p : Pr} (S : PrSmall p) : placesOf p ≤ 262144 := by
  have h1 := S.all
  have h2 := sum_le_sum (fun f : Fu => plSts f.body) (fun f => stAlls f.body) (fun f => plSts_all f.body) p.fs
  have h3 := sum_le_sum (fun t : Th => plSts t.l) (fun t => stAlls t.l) (fun t => plSts_all t.l) p.ts
  unfold placesOf
  omega
theorem sum_take {α : Type} (f : α → Nat) : ∀ (k : Nat) (l : List α), ((l.take k).map f).sum ≤ (l.map f).sum
  | 0, l => by simp
  | k + 1, [] => by simp
  | k + 1, x :: r => by
    simp only [List.take_succ_cons, List.map_cons, List.sum_cons]
    have := sum_take f k r
    omega
/-- the first k threads alone -/
abbrev cutT (p : Pr) (k : Nat) : Pr := ⟨p.rd, p.rs, p.sd, p.ss, p.fd, p.fs, p.td, p.ts.take k⟩
theorem places_cut (p : Pr) (k : Nat) : placesOf (cutT p k) ≤ placesOf p := by
  unfold placesOf
  have h1 := sum_take (fun t : Th => plSts t.l) k p.ts
  have h2 : (p.ts.take k).length ≤ p.ts.length := by rw [List.length_take]; omega
  dsimp only
  omega
theorem strip_cut {p q : Pr} (h : stripP q = stripP p) (k : Nat) : stripP (cutT q k) = stripP (cutT p k) := by
  unfold stripP at h ⊢
  injection h with h1 h2 h3 h4 h5 h6 h7 h8
  dsimp only
  rw [h2, h4, h6, List.map_take, List.map_take, h8]
theorem strip_len {p q : Pr} (h : stripP q = stripP p) : q.ts.length = p.ts.length := by
  unfold stripP at h
  injection h with h1 h2 h3 h4 h5 h6 h7 h8
  have := congrArg List.length h8
  simpa using this
theorem PrIn.cut {w : World} {B : Nat} {p : Pr} (h : PrIn w B p) (k : Nat) : PrIn w B (cutT p k) :=
  ⟨h.rlen, h.rrow, h.rsub, h.ss, h.flen, h.frow, h.fsub, by have := h.tlen; unfold lenOk at *; rw [List.length_take]; omega, fun hne => by
    obtain ⟨b, off, h1, h2, h3⟩ := h.trow (fun h0 => hne (by show p.ts.take k = []; rw [h0]; simp))
    exact ⟨b, off, h1, h2, fun i y hy => h3 i y (by
      have hi := (List.getElem?_eq_some_iff.1 hy).1
      rw [List.getElem?_take] at hy
      split at hy
      · exact hy
      · cases hy)⟩, fun t ht => h.tsub t (List.mem_of_mem_take ht)⟩

set_option maxHeartbeats 400000 in
set_option maxRecDepth 100000 in
theorem beyond_any (b off c : Nat) (x : Int) (h1 : 0 ≤ x) (h2 : x ≤ 9223372036854775807) (w : World) (hc : w.cell? ⟨b, off, none⟩ = some (.int .i64 x)) :
    Calls Tryd.prog 7 #[.slice (some ⟨b, off, none⟩) 1 c] w fun e w' => e = .returned (.bool (decide (262144 < x))) ∧ w = w' := by
  by_cases hx : 262144 < x
  · rw [show decide (262144 < x) = true by simpa using hx]
    go_enter Tryd.func7, Tryd.ntmps7
    go_wp2
    refine wp_loop_rounds 1 ?_
    rw [rounds_succ]
    go_wp2
    go_ret
    exact ⟨rfl, rfl⟩
  · rw [show decide (262144 < x) = false by simpa using hx]
    go_enter Tryd.func7, Tryd.ntmps7
    go_wp2
    refine wp_loop_rounds 2 ?_
    rw [rounds_succ]
    go_wp2
    rw [rounds_succ]
    go_wp2
    go_ret
    exact ⟨rfl, rfl⟩

set_option maxHeartbeats 16000000 in
set_option maxRecDepth 100000 in
theorem typesFirst_walk (p : Pr) (w : World) (hI : PrIn w w.heap.size p) (G : TyG w.heap.size w) :
    Calls Tryd.prog 5 #[.agg p.cells.toArray] w fun e w' => e = .returned (.bool true) ∧ Below w.heap.size w w' := by
  have HG0 : Hid (∀ W', Below w.heap.size w W' → TyG W'.heap.size W') := Lib.hid fun W' hb => (G.below hb).1
  have HI0 : Hid (∀ W', Below w.heap.size w W' → PrIn W' W'.heap.size p) := Lib.hid fun W' hb => hI.keep hb hb.size
  obtain ⟨X, hX⟩ : ∃ X, w.heap.size = X := ⟨_, rfl⟩
  obtain ⟨w1, hw1⟩ : ∃ w1, w.alloc (prObj p) = w1 := ⟨_, rfl⟩
  have hb1 : Below w.heap.size w w1 := by rw [← hw1]; exact (Below.refl _ _).alloc (Nat.le_refl _) _
  have x1 : w1.heap[X]? = some (prObj p) := by rw [← hw1, ← hX]; exact heap_alloc_new w _
  have HX1 : Hid (∀ W', Below w1.heap.size w1 W' → W'.heap[X]? = some (prObj p)) := Lib.hid fun W' hb => (hb.block X (blk_lt x1)).trans x1
  have HBw : Hid (∀ W', Below w1.heap.size w1 W' → Below w.heap.size w W') := Lib.hid fun W' hb => hb1.trans (hb.mono hb1.size)
  have HG : Hid (∀ W', Below w1.heap.size w1 W' → TyG W'.heap.size W') := Lib.hid fun W' hb => HG0.out _ (HBw.out _ hb)
  have HI : Hid (∀ W', Below w1.heap.size w1 W' → PrIn W' W'.heap.size p) := Lib.hid fun W' hb => HI0.out _ (HBw.out _ hb)
  have HN := Lib.hid (And.intro hX hw1)
  have hrg := prSize_range p
  have C1 := Lib.hid (prsize_any p w1 (HI0.out _ hb1))
  have HBw1 : Hid (Below w1.heap.size w1 w1) := Lib.hid (Below.refl _ _)
  have q0 := cell_at x1 0
  have q1 := cell_at x1 1
  have q2 := cell_at x1 2
  have q3 := cell_at x1 3
  simp only [List.getElem?_toArray, List.getElem?_cons_zero, List.getElem?_cons_succ] at q0 q1 q2 q3
  rw [← hw1, ← hX] at q0 q1 q2 q3
  dsimp only [Pr.cells]
  by_cases hbig : 262144 < prSizeS p
  · have CB : Hid (∀ (b : Nat) (W : World), W.cell? ⟨b, 0, none⟩ = some (.int .i64 (prSizeS p)) → Calls Tryd.prog 7 #[.slice (some ⟨b, 0, none⟩) 1 1] W fun e w' => e = .returned (.bool true) ∧ W = w') := Lib.hid fun b W hc => by
      have h := beyond_any b 0 1 (prSizeS p) hrg.1 (by omega) W hc
      rwa [show decide (262144 < prSizeS p) = true by simpa using hbig] at h
    generalize prSizeS p = sz at *
    clear hX hw1 hb1 x1 hI G hrg hbig
    go_enter Tryd.func5, Tryd.ntmps5
    go_wp2_with fail
    simp only [HN.out.1, HN.out.2]
    refine C1.out.mono ?_
    rintro e w2 ⟨rfl, hb2⟩
    have HB2 := Lib.hid (HBw.out _ hb2)
    clear hb2 C1
    go_wp2_with fail
    refine (CB.out _ _ (cell_at (heap_alloc_new w2 _) 0)).mono ?_
    rintro e w3 ⟨rfl, rfl⟩
    have HZ : Hid (∀ o, Below w.heap.size w (w2.alloc o)) := Lib.hid fun o => HB2.out.alloc HB2.out.size o
    go_wp2_with fail
    go_ret
    exact ⟨rfl, HZ.out _⟩
  · have CB : Hid (∀ (b : Nat) (W : World), W.cell? ⟨b, 0, none⟩ = some (.int .i64 (prSizeS p)) → Calls Tryd.prog 7 #[.slice (some ⟨b, 0, none⟩) 1 1] W fun e w' => e = .returned (.bool false) ∧ W = w') := Lib.hid fun b W hc => by
      have h := beyond_any b 0 1 (prSizeS p) hrg.1 (by omega) W hc
      rwa [show decide (262144 < prSizeS p) = false by simpa using hbig] at h
    have hsm := prSize_small (p := p) (by omega)
    have HSm := Lib.hid hsm
    have HL : Hid (p.ts.length ≤ 262144) := Lib.hid (by have := hsm.heads; omega)
    generalize prSizeS p = sz at *
    clear hX hw1 hb1 x1 hI G hrg hbig hsm
    go_enter Tryd.func5, Tryd.ntmps5
    go_wp2_with fail
    simp only [HN.out.1, HN.out.2]
    refine C1.out.mono ?_
    rintro e w2 ⟨rfl, hb2⟩
    have HB2 := Lib.hid hb2
    clear hb2 C1 q0 q1 q2 q3
    go_wp2_with fail
    refine (CB.out _ _ (cell_at (heap_alloc_new w2 _) 0)).mono ?_
    rintro e w3 ⟨rfl, hw3⟩
    have hb3 : Below w1.heap.size w1 w3 := by rw [← hw3]; exact HB2.out.alloc HB2.out.size _
    have HBw3 := Lib.hid hb3
    have g3 := HG.out _ hb3
    have CC := Lib.hid (typesCheck_any w3.heap.size p w3 g3.gl g3.num (HI.out _ hb3))
    have row := HX1.out _ HBw3.out
    have q0 := cell_at row 0
    have q1 := cell_at row 1
    have q2 := cell_at row 2
    have q3 := cell_at row 3
    simp only [List.getElem?_toArray, List.getElem?_cons_zero, List.getElem?_cons_succ] at q0 q1 q2 q3
    clear row
    obtain ⟨at_, er, hT⟩ : ∃ a b, typesCheck p = (a, b) := ⟨_, _, rfl⟩
    rw [hT] at CC
    have HT := Lib.hid hT
    clear hb3 hw3 HB2 CB hT g3
    go_wp2_with fail
    refine CC.out.mono ?_
    rintro e w4 ⟨rfl, hb4⟩
    have HBw4 : Hid (Below w1.heap.size w1 w4) := Lib.hid (HBw3.out.trans (hb4.mono HBw3.out.size))
    clear hb4 CC q0 q1 q2 q3
    by_cases h0 : er = 0
    · have e0 : (er == 0) = true := by simpa using h0
      clear h0
      go_wp2_with fail
      refine (alive05_any w4 (HG.out _ HBw4.out)).mono ?_
      rintro e w99 ⟨rfl, hb⟩
      have HBz := Lib.hid ((HBw.out _ HBw4.out).trans (hb.mono (HBw.out _ HBw4.out).size))
      clear hb
      go_wp2_with fail
      go_ret
      exact ⟨rfl, HBz.out⟩
    have e0 : (er == 0) = false := by simpa using h0
    by_cases h1 : er = 1
    · have e1 : (er == 1) = true := by simpa using h1
      clear h0 h1
      go_wp2_with fail
      refine (alive05_any w4 (HG.out _ HBw4.out)).mono ?_
      rintro e w99 ⟨rfl, hb⟩
      have HBz := Lib.hid ((HBw.out _ HBw4.out).trans (hb.mono (HBw.out _ HBw4.out).size))
      clear hb
      go_wp2_with fail
      go_ret
      exact ⟨rfl, HBz.out⟩
    have e1 : (er == 1) = false := by simpa using h1
    have HE := Lib.hid (And.intro h0 h1)
    clear h0 h1
    go_wp2_with fail
    go_loopw [5] (fun ii wr => ∃ (k : Nat), ii = .int .i64 k ∧ k ≤ p.ts.length + 1 ∧ Hid (Below w1.heap.size w1 wr)) (fun ii _ => p.ts.length + 1 - (intOf ii).toNat)
    case atStart => exact ⟨0, rfl, Nat.zero_le _, HBw4⟩
    case round =>
      obtain ⟨k, rfl, hk, HBwr⟩ := hrel
      clear HBw4 HBw3
      have p2 : (0 : Int) ≤ (k : Int) := Int.natCast_nonneg _
      have p3 : (k : Int) ≤ 300000 := by have := HL.out; omega
      have row := HX1.out _ HBwr.out
      have q0 := cell_at row 0
      have q1 := cell_at row 1
      have q2 := cell_at row 2
      have q3 := cell_at row 3
      simp only [List.getElem?_toArray, List.getElem?_cons_zero, List.getElem?_cons_succ] at q0 q1 q2 q3
      clear row
      by_cases hlt : k ≤ p.ts.length
      · have d1 : decide ((k : Int) ≤ (p.ts.length : Int)) = true := by simpa using hlt
        have d1n : decide (k ≤ p.ts.length) = true := by simpa using hlt
        have gr := HG.out _ HBwr.out
        have CT := Lib.hid (twinPr_any wr.heap.size p wr (HI.out _ HBwr.out) (Nat.le_refl _) gr.gg HSm.out)
        have CT : Hid (Calls Tryd.prog 15 #[p.val] wr fun e w' => ∃ q : Pr, e = .returned (.agg q.cells.toArray) ∧ stripP q = stripP p ∧ TnP w' wr.heap.size w'.heap.size q ∧ Below wr.heap.size wr w') := CT
        have HLt := Lib.hid hlt
        clear gr hlt
        go_wp2_with fail
        refine CT.out.mono ?_
        rintro e w2 ⟨q, rfl, hst, hTn, hb2⟩
        have hqi := hTn.inn
        have hql := strip_len hst
        obtain ⟨b, ha, -, -, hc, -⟩ := hTn.ts.row
        have hpe : placesOf (cutT q k) = placesOf (cutT p k) := placesOf_same (strip_cut hst k)
        have hte : typesCheck (cutT q k) = typesCheck (cutT p k) := typesCheck_same (strip_cut hst k)
        obtain ⟨qrd, qrs, qsd, qss, qfd, qfs, ⟨A, cq⟩, qts⟩ := q
        dsimp only at ha hc hql
        subst ha hc
        obtain ⟨Q, hQ⟩ : ∃ Q, w2.heap.size = Q := ⟨_, rfl⟩
        obtain ⟨w3, hw3⟩ : ∃ w3, w2.alloc (.cells #[.slice qrd.a qrs.length qrd.c, .slice qsd.a qss.length qsd.c, .slice qfd.a qfs.length qfd.c, .slice (some ⟨b, 0, none⟩) k (qts.length + 2)] 27 (0, 0)) = w3 := ⟨_, rfl⟩
        have hb3 : Below w2.heap.size w2 w3 := by rw [← hw3]; exact (Below.refl _ _).alloc (Nat.le_refl _) _
        have x3 : w3.heap[Q]? = some (.cells #[.slice qrd.a qrs.length qrd.c, .slice qsd.a qss.length qsd.c, .slice qfd.a qfs.length qfd.c, .slice (some ⟨b, 0, none⟩) k (qts.length + 2)] 27 (0, 0)) := by rw [← hw3, ← hQ]; exact heap_alloc_new w2 _
        have hkl : (qts.take k).length = k := by rw [List.length_take]; have := HLt.out; omega
        have hq3 : PrIn w3 w3.heap.size (cutT ⟨qrd, qrs, qsd, qss, qfd, qfs, ⟨some ⟨b, 0, none⟩, qts.length + 2⟩, qts⟩ k) := (hqi.cut k).keep hb3 hb3.size
        have HBr3 : Hid (Below wr.heap.size wr w3) := Lib.hid (hb2.trans (hb3.mono hb2.size))
        have HB3 : Hid (Below w1.heap.size w1 w3) := Lib.hid (HBwr.out.trans (HBr3.out.mono HBwr.out.size))
        have g3 := HG.out _ HB3.out
        have C3 := typesCheck_any w3.heap.size _ w3 g3.gl g3.num hq3
        rw [hte] at C3
        dsimp only [Pr.val] at C3
        rw [hkl] at C3
        have HQ3 : Hid (∀ W, Below w3.heap.size w3 W → W.heap[Q]? = some (.cells #[.slice qrd.a qrs.length qrd.c, .slice qsd.a qss.length qsd.c, .slice qfd.a qfs.length qfd.c, .slice (some ⟨b, 0, none⟩) k (qts.length + 2)] 27 (0, 0))) := Lib.hid fun W hb => (hb.block Q (blk_lt x3)).trans x3
        have HP : Hid (∀ W, Below w3.heap.size w3 W → Calls Tryd.prog 16 #[.agg #[.slice qrd.a qrs.length qrd.c, .slice qsd.a qss.length qsd.c, .slice qfd.a qfs.length qfd.c, .slice (some ⟨b, 0, none⟩) k (qts.length + 2)]] W fun e w' => e = .returned (.int .i64 (placesOf (cutT p k) : Nat)) ∧ Below W.heap.size W w') := Lib.hid fun W hb => by
          have h := places_any W.heap.size _ W (hq3.keep hb hb.size) (Nat.le_refl _) (by rw [hpe]; have h1 := places_small HSm.out; have h2 := places_cut p k; omega)
          rw [hpe] at h
          dsimp only [Pr.val] at h
          rw [hkl] at h
          exact h
        have hTF := types_first (p := p) (q := cutT p k) ⟨rfl, rfl, rfl⟩ rfl HT.out HE.out.1 HE.out.2
        have hplb : (placesOf (cutT p k) : Int) ≤ 300000 := by have h1 := places_small HSm.out; have h2 := places_cut p k; omega
        have HC3 := Lib.hid C3
        have HTF := Lib.hid hTF
        have HPb := Lib.hid hplb
        have HW3 := Lib.hid (And.intro hQ hw3)
        have hkc : (k : Int) ≤ (qts.length : Int) + 2 := by have := HLt.out; omega
        dsimp only [Pr.cells]
        clear CT hst hTn hqi hql hpe hte hb2 hQ hw3 hb3 x3 hkl hq3 g3 C3 hTF hplb q0 q1 q2 q3
        generalize typesCheck (cutT p k) = tc at *
        generalize placesOf (cutT p k) = pl at *
        go_wp2_with fail
        simp only [HW3.out.1, HW3.out.2]
        refine HC3.out.mono ?_
        rintro e w5 ⟨rfl, hb5⟩
        have HB5 := Lib.hid hb5
        have row := HQ3.out _ hb5
        have y0 := cell_at row 0
        have y1 := cell_at row 1
        have y2 := cell_at row 2
        have y3 := cell_at row 3
        simp only [List.getElem?_toArray, List.getElem?_cons_zero, List.getElem?_cons_succ] at y0 y1 y2 y3
        clear row hb5 HC3
        go_wp2_with fail
        refine (HP.out _ HB5.out).mono ?_
        rintro e w6 ⟨rfl, hb6⟩
        have HB6 : Hid (Below w1.heap.size w1 w6) := Lib.hid (HB3.out.trans ((HB5.out.trans (hb6.mono HB5.out.size)).mono HB3.out.size))
        clear hb6 y0 y1 y2 y3 HP HQ3
        by_cases hpl : (pl : Int) ≤ at_
        · obtain rfl : tc = (0, 0) := by have h := HTF.out; rw [if_pos hpl] at h; exact h
          have d2 : decide ((pl : Int) ≤ at_) = true := by simpa using hpl
          clear hpl HTF
          go_wp2_with fail
          go_roundw
          case rel => exact ⟨k + 1, by go_num, by have := HLt.out; omega, HB6⟩
          case measure => have := HLt.out; simp [intOf]; omega
        · obtain rfl : tc = (at_, er) := by have h := HTF.out; rw [if_neg hpl] at h; exact h
          have d2 : decide ((pl : Int) ≤ at_) = false := by simpa using hpl
          have d3 : (at_ == at_) = true := by simp
          have d4 : (er == er) = true := by simp
          clear hpl HTF
          go_wp2_with fail
          go_roundw
          case rel => exact ⟨k + 1, by go_num, by have := HLt.out; omega, HB6⟩
          case measure => have := HLt.out; simp [intOf]; omega
      · have d1 : decide ((k : Int) ≤ (p.ts.length : Int)) = false := by simp; omega
        have d1n : decide (k ≤ p.ts.length) = false := by simp; omega
        clear hk hlt
        go_wp2_with fail
        refine (alive05_any wr (HG.out _ HBwr.out)).mono ?_
        rintro e w99 ⟨rfl, hb⟩
        have HBz := Lib.hid ((HBw.out _ HBwr.out).trans (hb.mono (HBw.out _ HBwr.out).size))
        clear hb
        go_wp2_with fail
        go_ret
        exact ⟨rfl, HBz.out⟩
theorem tyG_of {W : World} (hL : laidMetH Tryd.prog Rows.typesFirstRow.laid W) (hSh : W.ShapedOpen Tryd.prog) : TyG W.heap.size W := by
  obtain ⟨h0, h1, h2, h3, h4⟩ := num_of_tail (laid_tail hL).tail
  exact ⟨GlB.of (lglobs_of hSh), ⟨h0, h1, h2, h3, h4⟩, globs_of_laid hL⟩
end Go.Proofs.YtkklogikakcanaaDoor
