/-
  Twins of lists of attempts.
-/
import Derived.Test.YtjaegddnikkibaaTwinPlain
import Derived.Test.YtjaegddnikkibaaOwnKit
set_option linter.unusedVariables false
set_option linter.unusedSimpArgs false
namespace Go.Proofs.Ytjaegddnikkibaa
open Go.RowKit Go.Sort

/-- a twin's events, marks behind -/
def TwEv (w : World) (g : Nat) (x : Att) : Prop :=
  ∃ b, x.dA = some ⟨b, 0, none⟩ ∧ x.dc = x.evs.length + 2 ∧ g < b ∧ b < w.heap.size ∧ ∀ k e, (x.evs ++ marksE x.evs.length)[k]? = some e → EvAt w b (k * 4) e
theorem TwEv.below {w W : World} {g : Nat} {x : Att} (h : TwEv w g x) (hb : Below w.heap.size w W) : TwEv W g x := by
  obtain ⟨b, h1, h2, h3, h4, h5⟩ := h
  exact ⟨b, h1, h2, h3, Nat.lt_of_lt_of_le h4 hb.size, fun k e he => (h5 k e he).keep fun o' => hb.cell (p := ⟨b, o', none⟩) h4⟩
theorem TwEv.put {w : World} {g : Nat} {x : Att} (h : TwEv w g x) (us : List Value) (o : Nat) : TwEv (putAll w g o us) g x := by
  obtain ⟨b, h1, h2, h3, h4, h5⟩ := h
  exact ⟨b, h1, h2, h3, by rw [putAll_size]; exact h4, fun k e he => (h5 k e he).keep fun o' => putAll_cell us o w ⟨b, o', none⟩ (Nat.ne_of_gt h3)⟩
theorem TwEv.evsAt {w : World} {g : Nat} {x : Att} (h : TwEv w g x) : EvsAt w w.heap.size x.dA x.evs := fun _ => by
  obtain ⟨b, h1, -, -, h4, h5⟩ := h
  refine ⟨b, 0, h1, h4, fun k e he => ?_⟩
  rw [Nat.zero_add]
  exact h5 k e (by rw [List.getElem?_append_left (List.getElem?_eq_some_iff.1 he).1]; exact he)
/-- a twin of a list of attempts -/
structure Twins (w : World) (g : Nat) (l : List Att) : Prop where
  own : w.ownsRow g 35 8 (.slice (some ⟨g, 0, none⟩) (l.length + 2) (l.length + 2)) (l.length + 2) ((l ++ [markA l.length, markA (l.length + 1)]).flatMap Att.cells)
  evs : ∀ x ∈ l, TwEv w g x
theorem Twins.below {w W : World} {g : Nat} {l : List Att} (h : Twins w g l) (hb : Below w.heap.size w W) : Twins W g l :=
  ⟨own_belowI h.own hb, fun x hx => (h.evs x hx).below hb⟩
theorem att_own {w : World} {base g n cap : Nat} {l : List Att} (h : w.ownsRow base 35 8 (.slice (some ⟨g, 0, none⟩) n cap) n (l.flatMap Att.cells)) (hn : n = l.length) (k : Nat) (x : Att) (hk : l[k]? = some x) : AttAt w g (k * 8) x := by
  have hlt : k < l.length := (List.getElem?_eq_some_iff.1 hk).1
  have key : ∀ j, j < 8 → w.cell? ⟨g, k * 8 + j, none⟩ = x.cells[j]? := fun j hj => by
    rw [h.cellAt (k * 8 + j) (by omega)]
    exact flat_at Att.cells 8 (fun _ => rfl) l k j x hk hj
  exact ⟨key 0 (by decide), key 1 (by decide), key 2 (by decide), key 3 (by decide), key 4 (by decide), key 5 (by decide), key 6 (by decide), key 7 (by decide)⟩
theorem Twins.at {w : World} {g : Nat} {l : List Att} (h : Twins w g l) (k : Nat) (x : Att) (hk : (l ++ [markA l.length, markA (l.length + 1)])[k]? = some x) : AttAt w g (k * 8) x :=
  att_own h.own (by simp) k x hk
theorem Twins.atts {w : World} {g : Nat} {l : List Att} (h : Twins w g l) : AttsAt w w.heap.size (some ⟨g, 0, none⟩) l :=
  ⟨fun hne => ⟨g, 0, rfl, World.block_lt_of_cell? _ _ (h.at 0 _ (List.getElem?_eq_getElem (by simp))).c0, fun k x hk => by
    rw [Nat.zero_add]
    exact h.at k x (by rw [List.getElem?_append_left (List.getElem?_eq_some_iff.1 hk).1]; exact hk)⟩, fun x hx => (h.evs x hx).evsAt⟩
theorem own_fill8 {base : Nat} {e : TypeId} {g n cap : Nat} {w : World} {xs : List Value} (h : w.ownsRow base e 8 (.slice (some ⟨g, 0, none⟩) n cap) n xs) (hn : n < cap) (a0 a1 a2 a3 a4 a5 a6 a7 : Value) :
    ((((((((w.setCell ⟨g, n * 8, none⟩ a0).setCell ⟨g, n * 8 + 1, none⟩ a1).setCell ⟨g, n * 8 + 2, none⟩ a2).setCell ⟨g, n * 8 + 3, none⟩ a3).setCell ⟨g, n * 8 + 4, none⟩ a4).setCell ⟨g, n * 8 + 5, none⟩ a5).setCell ⟨g, n * 8 + 6, none⟩ a6).setCell ⟨g, n * 8 + 7, none⟩ a7).ownsRow base e 8 (.slice (some ⟨g, 0, none⟩) (n + 1) cap) (n + 1) (xs ++ [a0, a1, a2, a3, a4, a5, a6, a7]) :=
  own_fill h hn [a0, a1, a2, a3, a4, a5, a6, a7] rfl

set_option maxHeartbeats 400000 in
theorem markAtt_any (n : Int) (h1 : 0 ≤ n) (h2 : n ≤ 100000000000) (w : World) :
    Calls Try.prog 44 #[.int .i64 n] w fun e w' => e = .returned (.agg #[.int .i64 (-1000 - n), .int .u8 0, .int .i64 0, .int .i64 0, .int .i64 0, .int .i64 0, .bool false, .slice none 0 0]) ∧ Below w.heap.size w w' := by
  go_enter Try.func44, Try.ntmps44
  go_wp2
  exact bodyPost_ret (v := .agg #[.int .i64 (-1000 - n), .int .u8 0, .int .i64 0, .int .i64 0, .int .i64 0, .int .i64 0, .bool false, .slice none 0 0]) (by simp [results, Try.results44, go_sem]) rfl ⟨rfl, (Below.refl _ _).alloc (Nat.le_refl _) _⟩

set_option maxHeartbeats 2000000 in
set_option maxRecDepth 100000 in
theorem twinAtt_any (x : Att) (B : Nat) (w : World) (hT : EvsAt w B x.dA x.evs) (hBw : B ≤ w.heap.size) (hn : x.evs.length ≤ 1000000) :
    Calls Try.prog 43 #[.agg #[.int .i64 x.th, .int .u8 x.kd, .int .i64 x.bg, .int .i64 x.en, .int .i64 x.ck, .int .i64 x.pl, .bool x.wr, .slice x.dA x.evs.length x.dc]] w fun e w' =>
      ∃ b, e = .returned (.agg #[.int .i64 x.th, .int .u8 x.kd, .int .i64 x.bg, .int .i64 x.en, .int .i64 x.ck, .int .i64 x.pl, .bool x.wr, .slice (some ⟨b, 0, none⟩) x.evs.length (x.evs.length + 2)]) ∧
        (∀ g, g < w.heap.size → TwEv w' g { x with dA := some ⟨b, 0, none⟩, dc := x.evs.length + 2 }) ∧ Below w.heap.size w w' := by
  obtain ⟨th, kd, bg, en, ck, pl, wt, dA, dc, evs⟩ := x
  dsimp only at *
  obtain ⟨X, hX⟩ : ∃ X, w.heap.size = X := ⟨_, rfl⟩
  obtain ⟨w0, hw0⟩ : ∃ w0, w.alloc (.cells #[.int .i64 th, .int .u8 kd, .int .i64 bg, .int .i64 en, .int .i64 ck, .int .i64 pl, .bool wt, .slice dA evs.length dc] 35 (0, 0)) = w0 := ⟨_, rfl⟩
  obtain ⟨w1, hw1⟩ : ∃ w1, w0.alloc (.cells #[.int .i64 0, .int .u8 0, .int .i64 0, .int .i64 0, .int .i64 0, .int .i64 0, .bool false, .slice none 0 0] 35 (0, 0)) = w1 := ⟨_, rfl⟩
  obtain ⟨Y, hY⟩ : ∃ Y, w0.heap.size = Y := ⟨_, rfl⟩
  have hb0 : Below w.heap.size w w0 := by rw [← hw0]; exact (Below.refl _ _).alloc (Nat.le_refl _) _
  have hb1 : Below w0.heap.size w0 w1 := by rw [← hw1]; exact (Below.refl _ _).alloc (Nat.le_refl _) _
  have HB1 : Hid (Below w.heap.size w w1) := Lib.hid (hb0.trans (hb1.mono hb0.size))
  have hXl : X < w0.heap.size := by rw [← hw0, ← hX]; simp
  have hYl : Y < w1.heap.size := by rw [← hw1, ← hY]; simp
  have hXY : X < Y := by omega
  have hXl1 : X < w1.heap.size := by omega
  have ax : AttAt w1 X 0 ⟨th, kd, bg, en, ck, pl, wt, dA, dc, evs⟩ := AttAt.keep (w := w0) (by rw [← hw0, ← hX]; constructor <;> simp) (fun o' => hb1.cell (p := ⟨X, o', none⟩) hXl)
  have ay : AttAt w1 Y 0 attZ := by rw [← hw1, ← hY]; constructor <;> simp [attZ]
  have fx : ∀ j, w1.frozen? ⟨X, j, none⟩ = false := fun j => (hb1.frozen (p := ⟨X, j, none⟩) hXl).trans (by rw [← hw0, ← hX]; simp)
  have fy : ∀ j, w1.frozen? ⟨Y, j, none⟩ = false := fun j => by rw [← hw1, ← hY]; simp
  have HD := Lib.hid (fun W (h : Below w1.heap.size w1 W) => (⟨ax.keep fun o' => h.cell (p := ⟨X, o', none⟩) hXl1, ay.keep fun o' => h.cell (p := ⟨Y, o', none⟩) hYl, fun j => (h.frozen (p := ⟨X, j, none⟩) hXl1).trans (fx j), fun j => (h.frozen (p := ⟨Y, j, none⟩) hYl).trans (fy j)⟩ :
    AttAt W X 0 ⟨th, kd, bg, en, ck, pl, wt, dA, dc, evs⟩ ∧ AttAt W Y 0 attZ ∧ (∀ j, W.frozen? ⟨X, j, none⟩ = false) ∧ ∀ j, W.frozen? ⟨Y, j, none⟩ = false))
  have HC := Lib.hid (twinEvs_any dA dc evs B w1 (hT.keep (HB1.out.mono hBw) (Nat.le_refl _)) (Nat.le_trans hBw HB1.out.size) hn)
  have x7 := ax.c7
  rw [Nat.zero_add] at x7
  dsimp only at x7
  have HX := Lib.hid hX
  have hYx : X ≤ Y := by omega
  have hYb : w.heap.size ≤ Y := by omega
  clear ax ay fx fy hb0 hb1 hT hBw
  go_enter Try.func43, Try.ntmps43
  go_wp2_with fail
  clear hw0 hw1 hX hY x7
  refine HC.out.mono ?_
  rintro e w2 ⟨rfl, hown, hb2⟩
  obtain ⟨⟨x0, x1, x2, x3, x4, x5, x6, x7⟩, ⟨y0, y1, y2, y3, y4, y5, y6, y7⟩, fx, fy⟩ := HD.out _ hb2
  simp only [Nat.zero_add, attZ] at x0 x1 x2 x3 x4 x5 x6 x7 y0 y1 y2 y3 y4 y5 y6 y7
  have f7 := fx 7
  have g0 := fy 0
  have g1 := fy 1
  have g2 := fy 2
  have g3 := fy 3
  have g4 := fy 4
  have g5 := fy 5
  have g6 := fy 6
  have g7 := fy 7
  obtain ⟨b, hbn⟩ : ∃ b, w1.heap.size = b := ⟨_, rfl⟩
  rw [hbn] at hown ⊢
  have HEV := Lib.hid (fun (W : World) (h : ∀ o, W.cell? ⟨b, o, none⟩ = w2.cell? ⟨b, o, none⟩) k e he => (evs_own hown k e he).keep h)
  have HBB : Hid (w.heap.size ≤ b ∧ X ≠ b ∧ Y ≠ b ∧ b < w2.heap.size) := Lib.hid ⟨by have := HB1.out.size; omega, by omega, by omega, by
    rcases hown.2 with ⟨h, -⟩ | ⟨g', cap', cur, h, -, hbk, -⟩
    · cases h
    · injection h with h; injection h with h; injection h with h; subst h
      exact (Array.getElem?_eq_some_iff.1 hbk).1⟩
  have HB2 : Hid (Below w.heap.size w w2) := Lib.hid (HB1.out.trans (hb2.mono HB1.out.size))
  have hne : X ≠ Y := by omega
  have hne2 : Y ≠ X := by omega
  clear hown hb2 fx fy HC HD hbn
  go_wp2_with fail
  refine bodyPost_ret (v := .agg #[.int .i64 th, .int .u8 kd, .int .i64 bg, .int .i64 en, .int .i64 ck, .int .i64 pl, .bool wt, .slice (some ⟨b, 0, none⟩) evs.length (evs.length + 2)]) (by simp [results, Try.results43, go_sem, hne, hne2, y0, y1, y2, y3, y4, y5, y6, y7]) rfl ?_
  obtain ⟨b1, b2, b3, b4⟩ := HBB.out
  refine ⟨b, rfl, fun g hg => ⟨b, rfl, rfl, by omega, by simpa using b4, fun k e he => HEV.out _ (fun o => ?_) k e he⟩, ?_⟩
  · iterate 8 refine (World.cell?_setCell_other _ _ _ _ (fun e => b3 (congrArg Addr.block e))).trans ?_
    exact World.cell?_setCell_other _ _ _ _ (fun e => b2 (congrArg Addr.block e))
  · exact (((((((((HB2.out.setCell (p := ⟨X, 7, none⟩) (by have := HX.out; show _ ≤ X; omega) _).setCell (p := ⟨Y, 0, none⟩) hYb _).setCell (p := ⟨Y, 1, none⟩) hYb _).setCell (p := ⟨Y, 2, none⟩) hYb _).setCell (p := ⟨Y, 3, none⟩) hYb _).setCell (p := ⟨Y, 4, none⟩) hYb _).setCell (p := ⟨Y, 5, none⟩) hYb _).setCell (p := ⟨Y, 6, none⟩) hYb _).setCell (p := ⟨Y, 7, none⟩) hYb _)
end Go.Proofs.Ytjaegddnikkibaa
namespace Go.Proofs.Ytjaegddnikkibaa
open Go.RowKit Go.Sort

set_option maxHeartbeats 4000000 in
set_option maxRecDepth 100000 in
theorem twinAtts_any (A : Option Addr) (c : Nat) (l : List Att) (B : Nat) (w : World) (ha : AttsAt w B A l) (hB : B ≤ w.heap.size) (hn : l.length ≤ 1000000) (hlen : ∀ x ∈ l, x.evs.length ≤ 1000000) :
    Calls Try.prog 16 #[.slice A l.length c] w fun e w' => e = .returned (.slice (some ⟨w.heap.size, 0, none⟩) l.length (l.length + 2)) ∧
      (∃ l', l'.map core = l.map core ∧ Twins w' w.heap.size l') ∧ Below w.heap.size w w' := by
  have HA := Lib.hid (fun W (h : Below w.heap.size w W) => ha.keep (h.mono hB) hB)
  have HL := Lib.hid hlen
  obtain ⟨i0, hi0, hz0, hz1, hz2⟩ := info_parts attInfo
  have hmk0 := run_make (P := Try.prog) w 22 35 i0 _ Try.underlying22 hi0 hz0 .i64 .i64 (l.length : Int) ((l.length : Int) + 2) (by omega) (by omega) (by rw [hz2]; omega) (by omega)
  rw [show ((l.length : Int) + 2).toNat = l.length + 2 by omega, Int.toNat_natCast, hz1] at hmk0
  obtain ⟨cs, hcs, hsz⟩ : ∃ cs, madeCells (Value.cells (.agg #[.int .i64 0, .int .u8 0, .int .i64 0, .int .i64 0, .int .i64 0, .int .i64 0, .bool false, .slice none 0 0])) ((l.length + 2) * 8) = cs ∧ cs.size = (l.length + 2) * 8 := ⟨_, rfl, size_madeCells _ _⟩
  rw [hcs] at hmk0
  clear hcs
  have HO0 := Lib.hid (own_begin w cs 35 8 (l.length + 2) (by simp only [maxLen]; omega) hsz)
  have HB0 : Hid (Below w.heap.size w (w.alloc (.cells cs 35))) := Lib.hid ((Below.refl w.heap.size w).alloc (Nat.le_refl _) _)
  have HM0 : Hid (([] : List Att).map core = (l.take 0).map core) := Lib.hid rfl
  have HT0 : Hid (∀ x ∈ ([] : List Att), TwEv (w.alloc (.cells cs 35)) w.heap.size x) := Lib.hid (fun x hx => by cases hx)
  obtain ⟨n, hN⟩ : ∃ n, n = l.length := ⟨_, rfl⟩
  have HN := Lib.hid hN
  rw [← hN] at hmk0 HO0 hn ⊢
  clear hi0 hz0 hz1 hz2 hsz ha hlen hN
  go_enter Try.func16, Try.ntmps16
  go_wp2_with fail
  go_loopw [15] (fun i wr => ∃ (k : Nat) (l' : List Att), i = .int .i64 k ∧ k ≤ n ∧ l'.length = k ∧ Hid (l'.map core = (l.take k).map core) ∧ Hid (wr.ownsRow w.heap.size 35 8 (.slice (some ⟨w.heap.size, 0, none⟩) k (n + 2)) k (l'.flatMap Att.cells)) ∧ Hid (∀ x ∈ l', TwEv wr w.heap.size x) ∧ Hid (Below w.heap.size w wr)) (fun i _ => n - (intOf i).toNat)
  case atStart => exact ⟨0, [], rfl, Nat.zero_le _, rfl, HM0, HO0, HT0, HB0⟩
  case round =>
    clear HM0 HO0 HT0 HB0 hmk0
    obtain ⟨k, l', rfl, hk, hl', hM, hO, hT, hW⟩ := hrel
    by_cases hlt : k < n
    · have hltl : k < l.length := by have := HN.out; omega
      obtain ⟨b, off, rfl, -, hc⟩ := (HA.out _ hW.out).row (by rintro rfl; simp at hltl)
      obtain ⟨c0, c1, c2, c3, c4, c5, c6, c7⟩ := hc k _ (List.getElem?_eq_getElem hltl)
      have hC := Lib.hid (twinAtt_any l[k] w.heap.size wr ((HA.out _ hW.out).evs _ (List.getElem_mem hltl)) hW.out.size (HL.out _ (List.getElem_mem hltl)))
      have hM2 : Hid (∀ y, core y = core l[k] → (l' ++ [y]).map core = (l.take (k + 1)).map core) := Lib.hid (fun y hy => by rw [List.take_succ_eq_append_getElem hltl, List.map_append, List.map_append, hM.out]; simp [hy])
      have q1 : (k : Int) < (n : Int) := by omega
      have q2 : (0 : Int) ≤ (k : Int) := Int.natCast_nonneg _
      have q3 : (k : Int) < (l.length : Int) := by omega
      have hgl : w.heap.size < wr.heap.size := by
        rcases hO.out.2 with ⟨h, -⟩ | ⟨g', cap', cur, h, -, hbk, -⟩
        · cases h
        · injection h with h; injection h with h; injection h with h; rw [h]
          exact (Array.getElem?_eq_some_iff.1 hbk).1
      clear hc hM
      generalize l[k] = x at *
      obtain ⟨th, kd, bg, en, ck, pl, wt, dA, dc, evs⟩ := x
      dsimp only at c0 c1 c2 c3 c4 c5 c6 c7 hC
      go_wp2_with fail
      clear c0 c1 c2 c3 c4 c5 c6 c7
      refine hC.out.mono ?_
      rintro e w2 ⟨b2, rfl, htw, hb2⟩
      have hTW := Lib.hid (htw w.heap.size hgl)
      have hO2 := Lib.hid (own_belowI hO.out hb2)
      have hT2 : Hid (∀ x ∈ l', TwEv w2 w.heap.size x) := Lib.hid (fun x hx => (hT.out x hx).below hb2)
      have hW2 : Hid (Below w.heap.size w w2) := Lib.hid (hW.out.trans (hb2.mono hW.out.size))
      clear htw hb2 hO hT hW hC hgl
      obtain ⟨hroom, hfz⟩ := own_rooms (o := k * 8) hO2.out (by omega)
      obtain ⟨u0, k0⟩ := hroom 0 (by decide)
      obtain ⟨u1, k1⟩ := hroom 1 (by decide)
      obtain ⟨u2, k2⟩ := hroom 2 (by decide)
      obtain ⟨u3, k3⟩ := hroom 3 (by decide)
      obtain ⟨u4, k4⟩ := hroom 4 (by decide)
      obtain ⟨u5, k5⟩ := hroom 5 (by decide)
      obtain ⟨u6, k6⟩ := hroom 6 (by decide)
      obtain ⟨u7, k7⟩ := hroom 7 (by decide)
      rw [Nat.add_zero] at k0
      have z0 := hfz (k * 8)
      have z1 := hfz (k * 8 + 1)
      have z2 := hfz (k * 8 + 2)
      have z3 := hfz (k * 8 + 3)
      have z4 := hfz (k * 8 + 4)
      have z5 := hfz (k * 8 + 5)
      have z6 := hfz (k * 8 + 6)
      have z7 := hfz (k * 8 + 7)
      clear hroom hfz
      obtain ⟨us, hus⟩ : ∃ us : List Value, us = [.int .i64 th, .int .u8 kd, .int .i64 bg, .int .i64 en, .int .i64 ck, .int .i64 pl, .bool wt, .slice (some ⟨b2, 0, none⟩) evs.length (evs.length + 2)] := ⟨_, rfl⟩
      have hO3 := Lib.hid (own_fill8 hO2.out (by omega) (.int .i64 th) (.int .u8 kd) (.int .i64 bg) (.int .i64 en) (.int .i64 ck) (.int .i64 pl) (.bool wt) (.slice (some ⟨b2, 0, none⟩) evs.length (evs.length + 2)))
      have hW3 := Lib.hid (putAll_below (g := w.heap.size) (Nat.le_refl _) us (k * 8) _ hW2.out)
      have hT3 : Hid (∀ x ∈ l' ++ [(⟨th, kd, bg, en, ck, pl, wt, some ⟨b2, 0, none⟩, evs.length + 2, evs⟩ : Att)], TwEv (putAll w2 w.heap.size (k * 8) us) w.heap.size x) := Lib.hid (fun x hx => by
        rcases List.mem_append.1 hx with hx | hx
        · exact (hT2.out x hx).put us (k * 8)
        · rw [List.mem_singleton.1 hx]; exact hTW.out.put us (k * 8))
      rw [hus] at hW3 hT3
      simp only [putAll, Nat.add_assoc, Nat.reduceAdd] at hW3 hT3
      clear hus hT2 hTW hO2 hW2
      have hM3 := Lib.hid (hM2.out ⟨th, kd, bg, en, ck, pl, wt, some ⟨b2, 0, none⟩, evs.length + 2, evs⟩ rfl)
      clear hM2
      go_wp2_with fail
      clear k0 k1 k2 k3 k4 k5 k6 k7 z0 z1 z2 z3 z4 z5 z6 z7
      go_roundw
      case rel => exact ⟨k + 1, l' ++ [⟨th, kd, bg, en, ck, pl, wt, some ⟨b2, 0, none⟩, evs.length + 2, evs⟩], by go_num, by omega, by simp [hl'], hM3, Lib.hid (by rw [List.flatMap_append]; exact hO3.out), hT3, hW3⟩
      case measure => simp [intOf]; omega
    · obtain rfl : k = n := by omega
      have hM2 : Hid (l'.map core = l.map core) := Lib.hid (by have := hM.out; rwa [HN.out, List.take_length] at this)
      clear hM
      go_wp2_with fail
      refine wp_loop_rounds 3 ?_
      rw [rounds_succ]
      go_wp2_with fail
      refine (markAtt_any _ (by omega) (by omega) _).mono ?_
      rintro e w2 ⟨rfl, hb⟩
      have HO2 := Lib.hid (own_belowI hO.out hb)
      have HB2 : Hid (Below w.heap.size w w2) := Lib.hid (hW.out.trans (hb.mono hW.out.size))
      have HT2 : Hid (∀ x ∈ l', TwEv w2 w.heap.size x) := Lib.hid (fun x hx => (hT.out x hx).below hb)
      clear hb
      obtain ⟨hroom, hfz⟩ := own_rooms (o := k * 8) HO2.out (by omega)
      obtain ⟨u0, k0⟩ := hroom 0 (by decide)
      obtain ⟨u1, k1⟩ := hroom 1 (by decide)
      obtain ⟨u2, k2⟩ := hroom 2 (by decide)
      obtain ⟨u3, k3⟩ := hroom 3 (by decide)
      obtain ⟨u4, k4⟩ := hroom 4 (by decide)
      obtain ⟨u5, k5⟩ := hroom 5 (by decide)
      obtain ⟨u6, k6⟩ := hroom 6 (by decide)
      obtain ⟨u7, k7⟩ := hroom 7 (by decide)
      rw [Nat.add_zero] at k0
      have z0 := hfz (k * 8)
      have z1 := hfz (k * 8 + 1)
      have z2 := hfz (k * 8 + 2)
      have z3 := hfz (k * 8 + 3)
      have z4 := hfz (k * 8 + 4)
      have z5 := hfz (k * 8 + 5)
      have z6 := hfz (k * 8 + 6)
      have z7 := hfz (k * 8 + 7)
      clear hroom hfz
      have HO3 := Lib.hid (own_fill8 HO2.out (by omega) (.int .i64 (-1000 - (k : Int))) (.int .u8 0) (.int .i64 0) (.int .i64 0) (.int .i64 0) (.int .i64 0) (.bool false) (.slice none 0 0))
      have HB3 := Lib.hid (putAll_below (g := w.heap.size) (Nat.le_refl _) [.int .i64 (-1000 - (k : Int)), .int .u8 0, .int .i64 0, .int .i64 0, .int .i64 0, .int .i64 0, .bool false, .slice none 0 0] (k * 8) _ HB2.out)
      have HT3 : Hid (∀ x ∈ l', TwEv _ w.heap.size x) := Lib.hid (fun x hx => (HT2.out x hx).put [.int .i64 (-1000 - (k : Int)), .int .u8 0, .int .i64 0, .int .i64 0, .int .i64 0, .int .i64 0, .bool false, .slice none 0 0] (k * 8))
      simp only [putAll, Nat.add_assoc, Nat.reduceAdd] at HB3 HT3
      go_wp2_with fail
      clear k0 k1 k2 k3 k4 k5 k6 k7 z0 z1 z2 z3 z4 z5 z6 z7 HO2 HB2 HT2
      generalize (((((((w2.setCell ⟨w.heap.size, k * 8, none⟩ (.int .i64 (-1000 - (k : Int)))).setCell ⟨w.heap.size, k * 8 + 1, none⟩ (.int .u8 0)).setCell ⟨w.heap.size, k * 8 + 2, none⟩ (.int .i64 0)).setCell ⟨w.heap.size, k * 8 + 3, none⟩ (.int .i64 0)).setCell ⟨w.heap.size, k * 8 + 4, none⟩ (.int .i64 0)).setCell ⟨w.heap.size, k * 8 + 5, none⟩ (.int .i64 0)).setCell ⟨w.heap.size, k * 8 + 6, none⟩ (.bool false)).setCell ⟨w.heap.size, k * 8 + 7, none⟩ (.slice none 0 0) = w3 at HO3 HB3 HT3 ⊢
      rw [rounds_succ]
      go_wp2_with fail
      refine (markAtt_any _ (by omega) (by omega) _).mono ?_
      rintro e w4 ⟨rfl, hb⟩
      have HO2 := Lib.hid (own_belowI HO3.out hb)
      have HB2 : Hid (Below w.heap.size w w4) := Lib.hid (HB3.out.trans (hb.mono HB3.out.size))
      have HT2 : Hid (∀ x ∈ l', TwEv w4 w.heap.size x) := Lib.hid (fun x hx => (HT3.out x hx).below hb)
      clear hb
      obtain ⟨hroom, hfz⟩ := own_rooms (o := (k + 1) * 8) HO2.out (by omega)
      obtain ⟨u0, k0⟩ := hroom 0 (by decide)
      obtain ⟨u1, k1⟩ := hroom 1 (by decide)
      obtain ⟨u2, k2⟩ := hroom 2 (by decide)
      obtain ⟨u3, k3⟩ := hroom 3 (by decide)
      obtain ⟨u4, k4⟩ := hroom 4 (by decide)
      obtain ⟨u5, k5⟩ := hroom 5 (by decide)
      obtain ⟨u6, k6⟩ := hroom 6 (by decide)
      obtain ⟨u7, k7⟩ := hroom 7 (by decide)
      rw [Nat.add_zero] at k0
      have z0 := hfz ((k + 1) * 8)
      have z1 := hfz ((k + 1) * 8 + 1)
      have z2 := hfz ((k + 1) * 8 + 2)
      have z3 := hfz ((k + 1) * 8 + 3)
      have z4 := hfz ((k + 1) * 8 + 4)
      have z5 := hfz ((k + 1) * 8 + 5)
      have z6 := hfz ((k + 1) * 8 + 6)
      have z7 := hfz ((k + 1) * 8 + 7)
      clear hroom hfz
      have HO5 := Lib.hid (own_fill8 HO2.out (by omega) (.int .i64 (-1000 - ((k : Int) + 1))) (.int .u8 0) (.int .i64 0) (.int .i64 0) (.int .i64 0) (.int .i64 0) (.bool false) (.slice none 0 0))
      have HB5 := Lib.hid (putAll_below (g := w.heap.size) (Nat.le_refl _) [.int .i64 (-1000 - ((k : Int) + 1)), .int .u8 0, .int .i64 0, .int .i64 0, .int .i64 0, .int .i64 0, .bool false, .slice none 0 0] ((k + 1) * 8) _ HB2.out)
      have HT5 : Hid (∀ x ∈ l', TwEv _ w.heap.size x) := Lib.hid (fun x hx => (HT2.out x hx).put [.int .i64 (-1000 - ((k : Int) + 1)), .int .u8 0, .int .i64 0, .int .i64 0, .int .i64 0, .int .i64 0, .bool false, .slice none 0 0] ((k + 1) * 8))
      simp only [putAll, Nat.add_assoc, Nat.reduceAdd] at HB5 HT5
      go_wp2_with fail
      clear k0 k1 k2 k3 k4 k5 k6 k7 z0 z1 z2 z3 z4 z5 z6 z7 HO2 HB2 HT2
      generalize (((((((w4.setCell ⟨w.heap.size, (k + 1) * 8, none⟩ (.int .i64 (-1000 - ((k : Int) + 1)))).setCell ⟨w.heap.size, (k + 1) * 8 + 1, none⟩ (.int .u8 0)).setCell ⟨w.heap.size, (k + 1) * 8 + 2, none⟩ (.int .i64 0)).setCell ⟨w.heap.size, (k + 1) * 8 + 3, none⟩ (.int .i64 0)).setCell ⟨w.heap.size, (k + 1) * 8 + 4, none⟩ (.int .i64 0)).setCell ⟨w.heap.size, (k + 1) * 8 + 5, none⟩ (.int .i64 0)).setCell ⟨w.heap.size, (k + 1) * 8 + 6, none⟩ (.bool false)).setCell ⟨w.heap.size, (k + 1) * 8 + 7, none⟩ (.slice none 0 0) = w5 at HO5 HB5 HT5 ⊢
      rw [rounds_succ]
      go_wp2_with fail
      go_ret
      refine ⟨rfl, ⟨l', hM2.out, ?_, HT5.out⟩, HB5.out⟩
      have := HO5.out
      subst hl'
      rw [List.flatMap_append]
      rw [List.append_assoc] at this
      exact this
end Go.Proofs.Ytjaegddnikkibaa
