/-
  Is a twin still that? of events, of attempts.
-/
import Derived.Test.YtjaegddnikkibaaTwinAtts
import Derived.Test.YtjaegddnikkibaaRegion
set_option linter.unusedVariables false
set_option linter.unusedSimpArgs false
namespace Go.Proofs.Ytjaegddnikkibaa
open Go.RowKit Go.Sort

set_option maxHeartbeats 2000000 in
set_option maxRecDepth 100000 in
theorem sameEvs_any (A1 A2 : Option Addr) (c1 c2 : Nat) (l : List Ev) (B1 B2 : Nat) (w : World) (h1 : EvsAt w B1 A1 l) (h2 : EvsAt w B2 A2 l) (hn : l.length ≤ 1000000) :
    Calls Try.prog 82 #[.slice A1 l.length c1, .slice A2 l.length c2] w fun e w' => e = .returned (.bool true) ∧ ∃ k, w' = w.drewN k := by
  have HR1 := Lib.hid h1
  have HR2 := Lib.hid h2
  clear h1 h2
  go_enter Try.func82, Try.ntmps82
  go_wp2_with fail
  go_loopw [13] (fun i wr => ∃ k : Nat, k ≤ l.length ∧ i = .int .i64 k ∧ Hid (∃ q, wr = w.drewN q)) (fun i _ => l.length - (intOf i).toNat)
  case atStart => exact ⟨0, Nat.zero_le _, rfl, ⟨0, rfl⟩⟩
  case round =>
    obtain ⟨k, hk, rfl, hq⟩ := hrel
    obtain ⟨q, rfl⟩ := hq.out
    clear hq
    by_cases hlt : k < l.length
    · obtain ⟨g1, o1, rfl, -, hc1⟩ := HR1.out (by rintro rfl; simp at hlt)
      obtain ⟨g2, o2, rfl, -, hc2⟩ := HR2.out (by rintro rfl; simp at hlt)
      have ht1 := hc1 k _ (List.getElem?_eq_getElem hlt)
      have ht2 := hc2 k _ (List.getElem?_eq_getElem hlt)
      clear hc1 hc2
      generalize l[k] = t at *
      obtain ⟨a0, a1, a2, a3⟩ := ht1
      obtain ⟨b0, b1, b2, b3⟩ := ht2
      have p1 : (0 : Int) ≤ (k : Int) := Int.natCast_nonneg _
      have p2 : (k : Int) < (l.length : Int) := by omega
      go_wp2_with fail
      go_quiet (fail)
      go_wp2_with fail
      go_roundw
      case rel => exact ⟨k + 1, by omega, by go_num, ⟨_, rfl⟩⟩
      case measure => simp [intOf]; omega
    · go_wp2_with fail
      go_ret
      exact ⟨rfl, q, rfl⟩

abbrev IsS (w0 : World) (X : Nat) (n : Int) (W : World) : Prop :=
  Below w0.heap.size w0 W ∧ W.cell? ⟨X, 0, none⟩ = some (.int .i64 (-1000 - n)) ∧ W.cell? ⟨X, 1, none⟩ = some (.int .u8 0) ∧ W.cell? ⟨X, 2, none⟩ = some (.int .i64 0) ∧ W.cell? ⟨X, 3, none⟩ = some (.int .i64 0)
set_option maxHeartbeats 1000000 in
set_option maxRecDepth 100000 in
theorem isEv_any (n : Int) (h1 : 0 ≤ n) (h2 : n ≤ 100000000000) (w : World) :
    Calls Try.prog 81 #[.agg #[.int .i64 (-1000 - n), .int .u8 0, .int .i64 0, .int .i64 0], .int .i64 n] w fun e w' => e = .returned (.bool true) ∧ Below w.heap.size w w' := by
  obtain ⟨X, hX⟩ : ∃ X, w.heap.size = X := ⟨_, rfl⟩
  obtain ⟨w0, hw0⟩ : ∃ w0, w.alloc (.cells #[.int .i64 (-1000 - n), .int .u8 0, .int .i64 0, .int .i64 0] 38 (0, 0)) = w0 := ⟨_, rfl⟩
  have HB0 : Hid (Below w.heap.size w w0) := Lib.hid (by rw [← hw0]; exact (Below.refl _ _).alloc (Nat.le_refl _) _)
  have d0 : w0.cell? ⟨X, 0, none⟩ = some (.int .i64 (-1000 - n)) := by rw [← hw0, ← hX]; simp
  have d1 : w0.cell? ⟨X, 1, none⟩ = some (.int .u8 0) := by rw [← hw0, ← hX]; simp
  have d2 : w0.cell? ⟨X, 2, none⟩ = some (.int .i64 0) := by rw [← hw0, ← hX]; simp
  have d3 : w0.cell? ⟨X, 3, none⟩ = some (.int .i64 0) := by rw [← hw0, ← hX]; simp
  have hXl : X < w0.heap.size := by rw [← hw0, ← hX]; simp
  have HS := Lib.hid (fun W (h : Below w0.heap.size w0 W) => (⟨h, (h.cell (p := ⟨X, 0, none⟩) hXl).trans d0, (h.cell (p := ⟨X, 1, none⟩) hXl).trans d1, (h.cell (p := ⟨X, 2, none⟩) hXl).trans d2, (h.cell (p := ⟨X, 3, none⟩) hXl).trans d3⟩ : IsS w0 X n W))
  have HE := Lib.hid (fun W (h : Below w0.heap.size w0 W) => HB0.out.trans (h.mono HB0.out.size))
  clear d0 d1 d2 d3 hXl
  go_enter Try.func81, Try.ntmps81
  go_wp2_with fail
  clear hw0 hX
  refine wp_region_L (l := 4) (S := (IsS w0 X n)) (by kernel_rfl) ?_ (fun hHeld => ?_)
  · ((try dsimp only); (exact HS.out _ (Below.refl _ _).drew))
  refine wpAnyL_take (i := 0) (oi := _) (v := ?v1) rfl (by kernel_rfl) (fun _ _ _ h => h) (by assumption) (Or.inl ⟨by kernel_rfl, ?y1⟩) ?r1
  case y1 => (intro w hSw; (try dsimp only at hSw); go_simp; all_goals with_reducible rfl)
  try simp only [Act.put, List.setIfInBounds_toArray, List.set_cons_zero, List.set_cons_succ]
  refine wpAnyL_take (i := 1) (oi := _) (v := ?v2) rfl (by kernel_rfl) (fun _ _ _ h => h) (by assumption) (Or.inl ⟨by kernel_rfl, ?y2⟩) ?r2
  case y2 => (intro w hSw; (try dsimp only at hSw); go_simp; all_goals with_reducible rfl)
  try simp only [Act.put, List.setIfInBounds_toArray, List.set_cons_zero, List.set_cons_succ]
  refine wpAnyL_step (j := 2) (o := _) (by kernel_rfl) rfl (fun K hK => ?_)
  (go_simp; go_at_call 78; refine (markEv_any n h1 h2 _).mono ?_; rintro e w4 ⟨rfl, hb4⟩)
  refine hK _ _ ?_ (fun hHeld => ?_)
  · ((try dsimp only); (exact HS.out _ (hHeld.1.trans (hb4.mono hHeld.1.size))))
  clear hK K
  try simp only [Act.put, List.setIfInBounds_toArray, List.set_cons_zero, List.set_cons_succ]
  refine wpAnyL_take (i := 3) (oi := _) (v := ?v4) rfl (by kernel_rfl) (fun _ _ _ h => h) (by assumption) (Or.inl ⟨by kernel_rfl, ?y4⟩) ?r4
  case y4 => (intro w hSw; (try dsimp only at hSw); go_simp; all_goals with_reducible rfl)
  try simp only [Act.put, List.setIfInBounds_toArray, List.set_cons_zero, List.set_cons_succ]
  refine wpAnyL_last (j := 4) (o := _) (by kernel_rfl) rfl (by rfl) (by kernel_rfl) (fun K hK => ?_)
  go_simp
  (refine hK _ _ ?_; clear hK K)
  try simp only [Act.put, List.setIfInBounds_toArray, List.set_cons_zero, List.set_cons_succ]
  have hE2 := Lib.hid (HE.out _ hHeld.1)
  clear hHeld
  go_wp2_with fail
  go_ret
  exact ⟨rfl, hE2.out⟩

set_option maxHeartbeats 2000000 in
set_option maxRecDepth 100000 in
theorem leftEvs_any (b : Nat) (A : Option Addr) (c : Nat) (l : List Ev) (B : Nat) (w : World) (h1 : b < w.heap.size) (h2 : ∀ k e, (l ++ marksE l.length)[k]? = some e → EvAt w b (k * 4) e) (h3 : EvsAt w B A l) (hB : B ≤ w.heap.size) (hn : l.length ≤ 1000000) :
    Calls Try.prog 70 #[.slice (some ⟨b, 0, none⟩) l.length (l.length + 2), .slice A l.length c] w fun e w' => e = .returned (.bool true) ∧ Below w.heap.size w w' := by
  have HM0 := Lib.hid (fun W (hb : Below w.heap.size w W) (k : Nat) e (he : (l ++ marksE l.length)[l.length + k]? = some e) => (h2 (l.length + k) e he).keep (fun o' => hb.cell (p := ⟨b, o', none⟩) h1))
  have HM : Hid (∀ W, Below w.heap.size w W → ∀ (k : Nat) e, (marksE l.length)[k]? = some e → EvAt W b ((l.length + k) * 4) e) := Lib.hid (fun W hb k e he => HM0.out W hb k e (by rw [List.getElem?_append_right (by omega), Nat.add_sub_cancel_left]; exact he))
  have HS := Lib.hid (fun W (hb : Below w.heap.size w W) => sameEvs_any (some ⟨b, 0, none⟩) A (l.length + 2) c l w.heap.size B W (fun _ => ⟨b, 0, rfl, h1, fun k e he => by
    rw [Nat.zero_add]
    exact (h2 k e (by rw [List.getElem?_append_left (List.getElem?_eq_some_iff.1 he).1]; exact he)).keep (fun o' => hb.cell (p := ⟨b, o', none⟩) h1)⟩) (h3.keep (hb.mono hB) (Nat.le_refl _)) hn)
  clear h2 h3 HM0
  generalize l.length = n at *
  go_enter Try.func70, Try.ntmps70
  go_wp2_with fail
  refine wp_loop_rounds 3 ?_
  rw [rounds_succ]
  obtain ⟨e0, e1, e2, e3⟩ := HM.out w (Below.refl w.heap.size w) 0 _ rfl
  simp only [markE, Int.natCast_add, Int.natCast_one, Nat.add_zero] at e0 e1 e2 e3
  go_wp2_with fail
  refine (isEv_any (n : Int) (by omega) (by omega) _).mono ?_
  rintro e w1 ⟨rfl, hbx⟩
  have hb1 : Below w.heap.size w w1 := ((Below.refl w.heap.size w)).trans (hbx.mono ((Below.refl w.heap.size w)).size)
  clear hbx e0 e1 e2 e3
  go_wp2_with fail
  rw [rounds_succ]
  obtain ⟨e0, e1, e2, e3⟩ := HM.out w1 hb1 1 _ rfl
  simp only [markE, Int.natCast_add, Int.natCast_one, Nat.add_zero] at e0 e1 e2 e3
  go_wp2_with fail
  refine (isEv_any ((n : Int) + 1) (by omega) (by omega) _).mono ?_
  rintro e w2 ⟨rfl, hbx⟩
  have hb2 : Below w.heap.size w w2 := (hb1).trans (hbx.mono (hb1).size)
  clear hbx e0 e1 e2 e3
  go_wp2_with fail
  rw [rounds_succ]
  go_wp2_with fail
  refine (HS.out _ hb2).mono ?_
  rintro e w3 ⟨rfl, q, rfl⟩
  go_wp2_with fail
  go_ret
  exact ⟨rfl, below_drewN hb2 q⟩
end Go.Proofs.Ytjaegddnikkibaa
namespace Go.Proofs.Ytjaegddnikkibaa
open Go.RowKit Go.Sort

set_option maxHeartbeats 1000000 in
set_option maxRecDepth 100000 in
theorem isAtt_any (n : Int) (h1 : 0 ≤ n) (h2 : n ≤ 100000000000) (w : World) :
    Calls Try.prog 56 #[.agg #[.int .i64 (-1000 - n), .int .u8 0, .int .i64 0, .int .i64 0, .int .i64 0, .int .i64 0, .bool false, .slice none 0 0], .int .i64 n] w fun e w' => e = .returned (.bool true) ∧ Below w.heap.size w w' := by
  obtain ⟨X, hX⟩ : ∃ X, w.heap.size = X := ⟨_, rfl⟩
  obtain ⟨w0, hw0⟩ : ∃ w0, w.alloc (.cells #[.int .i64 (-1000 - n), .int .u8 0, .int .i64 0, .int .i64 0, .int .i64 0, .int .i64 0, .bool false, .slice none 0 0] 35 (0, 0)) = w0 := ⟨_, rfl⟩
  have HB0 : Hid (Below w.heap.size w w0) := Lib.hid (by rw [← hw0]; exact (Below.refl _ _).alloc (Nat.le_refl _) _)
  have d0 : w0.cell? ⟨X, 0, none⟩ = some (.int .i64 (-1000 - n)) := by rw [← hw0, ← hX]; simp
  have d7 : w0.cell? ⟨X, 7, none⟩ = some (.slice none 0 0) := by rw [← hw0, ← hX]; simp
  go_enter Try.func56, Try.ntmps56
  go_wp2_with fail
  go_ret
  exact ⟨rfl, HB0.out⟩

set_option maxHeartbeats 2000000 in
set_option maxRecDepth 100000 in
theorem leftAtt_any (x : Att) (b g : Nat) (B : Nat) (w : World) (h1 : TwEv w g { x with dA := some ⟨b, 0, none⟩, dc := x.evs.length + 2 }) (h3 : EvsAt w B x.dA x.evs) (hB : B ≤ w.heap.size) (hn : x.evs.length ≤ 1000000) :
    Calls Try.prog 55 #[.agg #[.int .i64 x.th, .int .u8 x.kd, .int .i64 x.bg, .int .i64 x.en, .int .i64 x.ck, .int .i64 x.pl, .bool x.wr, .slice (some ⟨b, 0, none⟩) x.evs.length (x.evs.length + 2)], .agg #[.int .i64 x.th, .int .u8 x.kd, .int .i64 x.bg, .int .i64 x.en, .int .i64 x.ck, .int .i64 x.pl, .bool x.wr, .slice x.dA x.evs.length x.dc]] w fun e w' => e = .returned (.bool true) ∧ Below w.heap.size w w' := by
  obtain ⟨th, kd, bg, en, ck, pl, wt, dA, dc, evs⟩ := x
  dsimp only at *
  obtain ⟨X, hX⟩ : ∃ X, w.heap.size = X := ⟨_, rfl⟩
  obtain ⟨w0, hw0⟩ : ∃ w0, w.alloc (.cells #[.int .i64 th, .int .u8 kd, .int .i64 bg, .int .i64 en, .int .i64 ck, .int .i64 pl, .bool wt, .slice (some ⟨b, 0, none⟩) evs.length (evs.length + 2)] 35 (0, 0)) = w0 := ⟨_, rfl⟩
  obtain ⟨w1, hw1⟩ : ∃ w1, w0.alloc (.cells #[.int .i64 th, .int .u8 kd, .int .i64 bg, .int .i64 en, .int .i64 ck, .int .i64 pl, .bool wt, .slice dA evs.length dc] 35 (0, 0)) = w1 := ⟨_, rfl⟩
  obtain ⟨Y, hY⟩ : ∃ Y, w0.heap.size = Y := ⟨_, rfl⟩
  have hb0 : Below w.heap.size w w0 := by rw [← hw0]; exact (Below.refl _ _).alloc (Nat.le_refl _) _
  have hb1 : Below w0.heap.size w0 w1 := by rw [← hw1]; exact (Below.refl _ _).alloc (Nat.le_refl _) _
  have HB1 : Hid (Below w.heap.size w w1) := Lib.hid (hb0.trans (hb1.mono hb0.size))
  have hXl : X < w0.heap.size := by rw [← hw0, ← hX]; simp
  have ax : AttAt w1 X 0 ⟨th, kd, bg, en, ck, pl, wt, some ⟨b, 0, none⟩, evs.length + 2, evs⟩ := AttAt.keep (w := w0) (by rw [← hw0, ← hX]; constructor <;> simp) (fun o' => hb1.cell (p := ⟨X, o', none⟩) hXl)
  have ay : AttAt w1 Y 0 ⟨th, kd, bg, en, ck, pl, wt, dA, dc, evs⟩ := by rw [← hw1, ← hY]; constructor <;> simp
  obtain ⟨b', hb', -, -, hbl, hbe⟩ := h1.below HB1.out
  injection hb' with hb'
  injection hb' with hb'
  subst hb'
  have HC := Lib.hid (leftEvs_any b dA dc evs B w1 hbl hbe (h3.keep (HB1.out.mono hB) (Nat.le_refl _)) (Nat.le_trans hB HB1.out.size) hn)
  obtain ⟨x0, x1, x2, x3, x4, x5, x6, x7⟩ := ax
  obtain ⟨y0, y1, y2, y3, y4, y5, y6, y7⟩ := ay
  simp only [Nat.zero_add] at x0 x1 x2 x3 x4 x5 x6 x7 y0 y1 y2 y3 y4 y5 y6 y7
  clear hb0 hb1 hXl hbl hbe h1 h3
  go_enter Try.func55, Try.ntmps55
  go_wp2_with fail
  clear hw0 hw1 hX hY
  refine HC.out.mono ?_
  rintro e w2 ⟨rfl, hb2⟩
  have hE := Lib.hid (HB1.out.trans (hb2.mono HB1.out.size))
  clear hb2
  go_wp2_with fail
  go_ret
  exact ⟨rfl, hE.out⟩

abbrev LeS (w0 : World) (g o b o2 : Nat) (th kd bg en ck pl : Int) (wt : Bool) (dv dv2 : Value) (W : World) : Prop :=
  Below w0.heap.size w0 W ∧ W.cell? ⟨g, o, none⟩ = some (.int .i64 th) ∧ W.cell? ⟨g, o + 1, none⟩ = some (.int .u8 kd) ∧ W.cell? ⟨g, o + 2, none⟩ = some (.int .i64 bg) ∧ W.cell? ⟨g, o + 3, none⟩ = some (.int .i64 en) ∧ W.cell? ⟨g, o + 4, none⟩ = some (.int .i64 ck) ∧ W.cell? ⟨g, o + 5, none⟩ = some (.int .i64 pl) ∧ W.cell? ⟨g, o + 6, none⟩ = some (.bool wt) ∧ W.cell? ⟨g, o + 7, none⟩ = some dv ∧
    W.cell? ⟨b, o2, none⟩ = some (.int .i64 th) ∧ W.cell? ⟨b, o2 + 1, none⟩ = some (.int .u8 kd) ∧ W.cell? ⟨b, o2 + 2, none⟩ = some (.int .i64 bg) ∧ W.cell? ⟨b, o2 + 3, none⟩ = some (.int .i64 en) ∧ W.cell? ⟨b, o2 + 4, none⟩ = some (.int .i64 ck) ∧ W.cell? ⟨b, o2 + 5, none⟩ = some (.int .i64 pl) ∧ W.cell? ⟨b, o2 + 6, none⟩ = some (.bool wt) ∧ W.cell? ⟨b, o2 + 7, none⟩ = some dv2
theorem leS_of {w0 W : World} {g o b o2 : Nat} {x y : Att} (hb : Below w0.heap.size w0 W) (h : AttAt W g o x) (h2 : AttAt W b o2 y) (he : core x = core y) :
    LeS w0 g o b o2 y.th y.kd y.bg y.en y.ck y.pl y.wr (.slice x.dA x.evs.length x.dc) (.slice y.dA y.evs.length y.dc) W := by
  obtain ⟨a0, a1, a2, a3, a4, a5, a6, a7, a8, a9⟩ := x
  obtain ⟨b0, b1, b2, b3, b4, b5, b6, b7, b8, b9⟩ := y
  simp only [core, Att.mk.injEq] at he
  obtain ⟨rfl, rfl, rfl, rfl, rfl, rfl, rfl, -, -, rfl⟩ := he
  exact ⟨hb, h.c0, h.c1, h.c2, h.c3, h.c4, h.c5, h.c6, h.c7, h2.c0, h2.c1, h2.c2, h2.c3, h2.c4, h2.c5, h2.c6, h2.c7⟩

set_option maxHeartbeats 4000000 in
set_option maxRecDepth 100000 in
theorem leftAtts_any (l l' : List Att) (g : Nat) (A : Option Addr) (c B : Nat) (w : World) (ht : Twins w g l') (hl : l'.map core = l.map core) (ha : AttsAt w B A l) (hB : B ≤ w.heap.size) (hn : l.length ≤ 1000000) (hlen : ∀ x ∈ l, x.evs.length ≤ 1000000) :
    Calls Try.prog 21 #[.slice (some ⟨g, 0, none⟩) l.length (l.length + 2), .slice A l.length c] w fun e w' => e = .returned (.bool true) ∧ Below w.heap.size w w' := by
  have hll := core_len hl
  have HT := Lib.hid (fun W (h : Below w.heap.size w W) => ht.below h)
  have HA := Lib.hid (fun W (h : Below w.heap.size w W) => ha.keep (h.mono hB) hB)
  have HM : Hid (∀ W, Below w.heap.size w W → ∀ (k : Nat) x, [markA l.length, markA (l.length + 1)][k]? = some x → AttAt W g ((l.length + k) * 8) x) := Lib.hid (fun W hb k x hx => (HT.out W hb).at (l.length + k) x (by rw [hll, List.getElem?_append_right (by omega), hll, Nat.add_sub_cancel_left]; exact hx))
  have HX : Hid (∀ k (hk : k < l.length), ∃ b, l'[k]? = some { l[k] with dA := some ⟨b, 0, none⟩, dc := l[k].evs.length + 2 }) := Lib.hid (fun k hk => by
    have hk' : k < l'.length := by omega
    have hc := core_get hl hk' hk
    obtain ⟨b, h1, h2, -⟩ := ht.evs _ (List.getElem_mem hk')
    refine ⟨b, ?_⟩
    rw [List.getElem?_eq_getElem hk']
    generalize l'[k] = x at *
    generalize l[k] = y at *
    obtain ⟨a0, a1, a2, a3, a4, a5, a6, a7, a8, a9⟩ := x
    obtain ⟨b0, b1, b2, b3, b4, b5, b6, b7, b8, b9⟩ := y
    simp only [core, Att.mk.injEq] at hc
    obtain ⟨rfl, rfl, rfl, rfl, rfl, rfl, rfl, -, -, rfl⟩ := hc
    dsimp only at h1 h2
    rw [h1, h2])
  have HL := Lib.hid hlen
  clear ht hl ha hll hlen
  go_enter Try.func21, Try.ntmps21
  go_wp2_with fail
  go_loopw [15] (fun i wr => ∃ k : Nat, i = .int .i64 k ∧ k ≤ l.length ∧ Hid (Below w.heap.size w wr)) (fun i _ => l.length - (intOf i).toNat)
  case atStart => exact ⟨0, rfl, Nat.zero_le _, Lib.hid (Below.refl _ _)⟩
  case round =>
    obtain ⟨k, rfl, hk, hW⟩ := hrel
    by_cases hlt : k < l.length
    · obtain ⟨b, off, rfl, -, hc⟩ := (HA.out _ hW.out).row (by rintro rfl; simp at hlt)
      obtain ⟨b2, hb2⟩ := HX.out k hlt
      have HSA := Lib.hid (fun W (h : Below wr.heap.size wr W) => (HA.out _ (hW.out.trans (h.mono hW.out.size))))
      have HCA := Lib.hid (fun W (h : Below wr.heap.size wr W) => hc k _ (List.getElem?_eq_getElem hlt) |>.keep fun o' => h.cell (p := ⟨b, o', none⟩) (show b < _ from World.block_lt_of_cell? _ ⟨b, off + k * 8, none⟩ (hc k _ (List.getElem?_eq_getElem hlt)).c0))
      have HTA := Lib.hid (fun W (h : Below wr.heap.size wr W) => (HT.out _ (hW.out.trans (h.mono hW.out.size))))
      have HTC := Lib.hid (fun W (h : Below wr.heap.size wr W) => (HTA.out W h).at k _ (by rw [List.getElem?_append_left (List.getElem?_eq_some_iff.1 hb2).1]; exact hb2))
      have HTE := Lib.hid (fun W (h : Below wr.heap.size wr W) => (HTA.out W h).evs _ (List.mem_of_getElem? hb2))
      have HAE := Lib.hid (fun W (h : Below wr.heap.size wr W) => (HSA.out W h).evs _ (List.getElem_mem hlt))
      have HZ := Lib.hid (fun W (h : Below wr.heap.size wr W) => (hW.out.trans (h.mono hW.out.size)))
      have hxl := HL.out _ (List.getElem_mem hlt)
      have q1 : (k : Int) < (l.length : Int) := by omega
      have q2 : (0 : Int) ≤ (k : Int) := Int.natCast_nonneg _
      clear hc hb2
      generalize l[k] = x at *
      obtain ⟨th, kd, bg, en, ck, pl, wt, dA, dc, evs⟩ := x
      dsimp only at *
      have HS := Lib.hid (fun W (h : Below wr.heap.size wr W) => (leS_of h (HTC.out W h) (HCA.out W h) rfl : LeS wr g (k * 8) b (off + k * 8) th kd bg en ck pl wt (.slice (some ⟨b2, 0, none⟩) evs.length (evs.length + 2)) (.slice dA evs.length dc) W))
      go_wp2_with fail
      refine wp_region_L (l := 9) (S := (LeS wr g (k * 8) b (off + k * 8) th kd bg en ck pl wt (.slice (some ⟨b2, 0, none⟩) evs.length (evs.length + 2)) (.slice dA evs.length dc))) (by kernel_rfl) ?_ (fun hHeld => ?_)
      · ((try dsimp only); (exact HS.out _ (Below.refl _ _).drew))
      refine wpAnyL_take (i := 0) (oi := _) (v := ?v6) rfl (by kernel_rfl) (fun _ _ _ h => h) (by assumption) (Or.inl ⟨by kernel_rfl, ?y6⟩) ?r6
      case y6 => (intro w hSw; (try dsimp only at hSw); go_simp; all_goals with_reducible rfl)
      try simp only [Act.put, List.setIfInBounds_toArray, List.set_cons_zero, List.set_cons_succ]
      refine wpAnyL_take (i := 1) (oi := _) (v := ?v7) rfl (by kernel_rfl) (fun _ _ _ h => h) (by assumption) (Or.inl ⟨by kernel_rfl, ?y7⟩) ?r7
      case y7 => (intro w hSw; (try dsimp only at hSw); go_simp; all_goals with_reducible rfl)
      try simp only [Act.put, List.setIfInBounds_toArray, List.set_cons_zero, List.set_cons_succ]
      refine wpAnyL_take (i := 2) (oi := _) (v := ?v8) rfl (by kernel_rfl) (fun _ _ _ h => h) (by assumption) (Or.inl ⟨by kernel_rfl, ?y8⟩) ?r8
      case y8 => (intro w hSw; (try dsimp only at hSw); go_simp; all_goals with_reducible rfl)
      try simp only [Act.put, List.setIfInBounds_toArray, List.set_cons_zero, List.set_cons_succ]
      refine wpAnyL_take (i := 3) (oi := _) (v := ?v9) rfl (by kernel_rfl) (fun _ _ _ h => h) (by assumption) (Or.inl ⟨by kernel_rfl, ?y9⟩) ?r9
      case y9 => (intro w hSw; (try dsimp only at hSw); go_simp; all_goals with_reducible rfl)
      try simp only [Act.put, List.setIfInBounds_toArray, List.set_cons_zero, List.set_cons_succ]
      refine wpAnyL_take (i := 4) (oi := _) (v := ?v10) rfl (by kernel_rfl) (fun _ _ _ h => h) (by assumption) (Or.inl ⟨by kernel_rfl, ?y10⟩) ?r10
      case y10 => (intro w hSw; (try dsimp only at hSw); go_simp; all_goals with_reducible rfl)
      try simp only [Act.put, List.setIfInBounds_toArray, List.set_cons_zero, List.set_cons_succ]
      refine wpAnyL_take (i := 5) (oi := _) (v := ?v11) rfl (by kernel_rfl) (fun _ _ _ h => h) (by assumption) (Or.inl ⟨by kernel_rfl, ?y11⟩) ?r11
      case y11 => (intro w hSw; (try dsimp only at hSw); go_simp; all_goals with_reducible rfl)
      try simp only [Act.put, List.setIfInBounds_toArray, List.set_cons_zero, List.set_cons_succ]
      refine wpAnyL_take (i := 6) (oi := _) (v := ?v12) rfl (by kernel_rfl) (fun _ _ _ h => h) (by assumption) (Or.inl ⟨by kernel_rfl, ?y12⟩) ?r12
      case y12 => (intro w hSw; (try dsimp only at hSw); go_simp; all_goals with_reducible rfl)
      try simp only [Act.put, List.setIfInBounds_toArray, List.set_cons_zero, List.set_cons_succ]
      refine wpAnyL_take (i := 7) (oi := _) (v := ?v13) rfl (by kernel_rfl) (fun _ _ _ h => h) (by assumption) (Or.inl ⟨by kernel_rfl, ?y13⟩) ?r13
      case y13 => (intro w hSw; (try dsimp only at hSw); go_simp; all_goals with_reducible rfl)
      try simp only [Act.put, List.setIfInBounds_toArray, List.set_cons_zero, List.set_cons_succ]
      refine wpAnyL_step (j := 8) (o := _) (by kernel_rfl) rfl (fun K hK => ?_)
      (go_simp; go_at_call 55; refine (leftAtt_any ⟨th, kd, bg, en, ck, pl, wt, dA, dc, evs⟩ b2 g w.heap.size _ (HTE.out _ hHeld.1) (HAE.out _ hHeld.1) (HZ.out _ hHeld.1).size hxl).mono ?_; rintro e w4 ⟨rfl, hb4⟩)
      refine hK _ _ ?_ (fun hHeld => ?_)
      · ((try dsimp only); (exact HS.out _ (hHeld.1.trans (hb4.mono hHeld.1.size))))
      clear hK K
      try simp only [Act.put, List.setIfInBounds_toArray, List.set_cons_zero, List.set_cons_succ]
      refine wpAnyL_last (j := 9) (o := _) (by kernel_rfl) rfl (by rfl) (by kernel_rfl) (fun K hK => ?_)
      go_simp
      (refine hK _ _ ?_; clear hK K)
      try simp only [Act.put, List.setIfInBounds_toArray, List.set_cons_zero, List.set_cons_succ]
      have hE2 := Lib.hid (HZ.out _ hHeld.1)
      clear hHeld
      go_wp2_with fail
      go_roundw
      case rel => exact ⟨k + 1, by go_num, by omega, hE2⟩
      case measure => simp [intOf]; omega
    · have hb0 := hW.out
      obtain rfl : k = l.length := by omega
      clear hW
      go_wp2_with fail
      refine wp_loop_rounds 3 ?_
      rw [rounds_succ]
      obtain ⟨e0, e1, e2, e3, e4, e5, e6, e7⟩ := HM.out wr hb0 0 _ rfl
      simp only [markA, Int.natCast_add, Int.natCast_one, Nat.add_zero, List.length_nil] at e0 e1 e2 e3 e4 e5 e6 e7
      go_wp2_with fail
      refine (isAtt_any (l.length : Int) (by omega) (by omega) _).mono ?_
      rintro e w1 ⟨rfl, hbx⟩
      have hb1 : Below w.heap.size w w1 := (hb0).trans (hbx.mono (hb0).size)
      clear hbx e0 e1 e2 e3 e4 e5 e6 e7
      go_wp2_with fail
      rw [rounds_succ]
      obtain ⟨e0, e1, e2, e3, e4, e5, e6, e7⟩ := HM.out w1 hb1 1 _ rfl
      simp only [markA, Int.natCast_add, Int.natCast_one, Nat.add_zero, List.length_nil] at e0 e1 e2 e3 e4 e5 e6 e7
      go_wp2_with fail
      refine (isAtt_any ((l.length : Int) + 1) (by omega) (by omega) _).mono ?_
      rintro e w2 ⟨rfl, hbx⟩
      have hb2 : Below w.heap.size w w2 := (hb1).trans (hbx.mono (hb1).size)
      clear hbx e0 e1 e2 e3 e4 e5 e6 e7
      go_wp2_with fail
      rw [rounds_succ]
      go_wp2_with fail
      go_ret
      exact ⟨rfl, hb2⟩
end Go.Proofs.Ytjaegddnikkibaa
