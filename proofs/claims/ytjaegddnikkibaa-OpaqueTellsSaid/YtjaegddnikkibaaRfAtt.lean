/-
  The reference's attempt, walked.
-/
import Derived.Test.YtjaegddnikkibaaRfMay
import Derived.Test.YtjaegddnikkibaaMayTwo
set_option linter.unusedVariables false
set_option linter.unusedSimpArgs false
namespace Go.Proofs.Ytjaegddnikkibaa
open Go.RowKit Go.Sort

abbrev RfS (w0 : World) (X : Nat) (th kd bg en ck pl : Int) (wt : Bool) (dv : Value) (b o : Nat) (eth ekd ea eb : Int) (W : World) : Prop :=
  Below w0.heap.size w0 W ∧ W.cell? ⟨X, 0, none⟩ = some (.int .i64 th) ∧ W.cell? ⟨X, 1, none⟩ = some (.int .u8 kd) ∧ W.cell? ⟨X, 2, none⟩ = some (.int .i64 bg) ∧ W.cell? ⟨X, 3, none⟩ = some (.int .i64 en) ∧ W.cell? ⟨X, 4, none⟩ = some (.int .i64 ck) ∧
    W.cell? ⟨X, 5, none⟩ = some (.int .i64 pl) ∧ W.cell? ⟨X, 6, none⟩ = some (.bool wt) ∧ W.cell? ⟨X, 7, none⟩ = some dv ∧
    W.cell? ⟨b, o, none⟩ = some (.int .i64 eth) ∧ W.cell? ⟨b, o + 1, none⟩ = some (.int .u8 ekd) ∧ W.cell? ⟨b, o + 2, none⟩ = some (.int .i64 ea) ∧ W.cell? ⟨b, o + 3, none⟩ = some (.int .i64 eb)
theorem rfS_of {w0 W : World} {X b o : Nat} {x : Att} {eth ekd ea eb : Int} (hb : b < w0.heap.size) (h : AttAt w0 X 0 x) (e0 : w0.cell? ⟨b, o, none⟩ = some (.int .i64 eth)) (e1 : w0.cell? ⟨b, o + 1, none⟩ = some (.int .u8 ekd)) (e2 : w0.cell? ⟨b, o + 2, none⟩ = some (.int .i64 ea)) (e3 : w0.cell? ⟨b, o + 3, none⟩ = some (.int .i64 eb)) (hX : X < w0.heap.size) (hW : Below w0.heap.size w0 W) :
    RfS w0 X x.th x.kd x.bg x.en x.ck x.pl x.wr (.slice x.dA x.evs.length x.dc) b o eth ekd ea eb W := by
  obtain ⟨a0, a1, a2, a3, a4, a5, a6, a7⟩ := h.keep fun o' => hW.cell (p := ⟨X, o', none⟩) hX
  simp only [Nat.zero_add] at a0 a1 a2 a3 a4 a5 a6 a7
  exact ⟨hW, a0, a1, a2, a3, a4, a5, a6, a7, (hW.cell (p := ⟨b, o, none⟩) hb).trans e0, (hW.cell (p := ⟨b, o + 1, none⟩) hb).trans e1, (hW.cell (p := ⟨b, o + 2, none⟩) hb).trans e2, (hW.cell (p := ⟨b, o + 3, none⟩) hb).trans e3⟩

set_option maxHeartbeats 4000000 in
set_option maxRecDepth 100000 in
theorem rfAttempt_any (th kd bg en ck pl : Int) (wt : Bool) (dA : Option Addr) (dc : Nat) (evs : List Ev) (B : Nat) (hx : (⟨th, kd, bg, en, ck, pl, wt, dA, dc, evs⟩ : Att).Ok) (w : World) (ha : EvsAt w B dA evs) (hB : B ≤ w.heap.size) :
    Calls Try.prog 65 #[.agg #[.int .i64 th, .int .u8 kd, .int .i64 bg, .int .i64 en, .int .i64 ck, .int .i64 pl,   .bool wt, .slice dA evs.length dc]] w fun e w' => e = .returned (.bool (attB ⟨th, kd, bg, en, ck, pl, wt, dA, dc, evs⟩)) ∧ Below w.heap.size w w' := by
  have hxl := hx.len
  have HA := Lib.hid ha
  clear hx ha
  dsimp only at hxl
  by_cases h1 : th < 0
  · have t1 : decide (th < 0) = true := by simp; omega
    rw [show attB ⟨th, kd, bg, en, ck, pl, wt, dA, dc, evs⟩ = false from attB_false (by omega)]
    go_enter Try.func65, Try.ntmps65
    go_wp2_with fail
    go_ret
    exact ⟨rfl, (Below.refl _ _).alloc (Nat.le_refl _) _⟩
  have t1 : decide (th < 0) = false := by simp; omega
  by_cases h2 : th < 4
  case neg =>
    have t2 : decide (4 ≤ th) = true := by simp; omega
    rw [show attB ⟨th, kd, bg, en, ck, pl, wt, dA, dc, evs⟩ = false from attB_false (by omega)]
    go_enter Try.func65, Try.ntmps65
    go_wp2_with fail
    go_ret
    exact ⟨rfl, (Below.refl _ _).alloc (Nat.le_refl _) _⟩
  have t2 : decide (4 ≤ th) = false := by simp; omega
  by_cases h3 : 3 < kd
  · have t3 : decide (3 < kd) = true := by simp; omega
    rw [show attB ⟨th, kd, bg, en, ck, pl, wt, dA, dc, evs⟩ = false from attB_false (by omega)]
    go_enter Try.func65, Try.ntmps65
    go_wp2_with fail
    go_ret
    exact ⟨rfl, (Below.refl _ _).alloc (Nat.le_refl _) _⟩
  have t3 : decide (3 < kd) = false := by simp; omega
  by_cases h4 : bg < 0
  · have t4 : decide (bg < 0) = true := by simp; omega
    rw [show attB ⟨th, kd, bg, en, ck, pl, wt, dA, dc, evs⟩ = false from attB_false (by omega)]
    go_enter Try.func65, Try.ntmps65
    go_wp2_with fail
    go_ret
    exact ⟨rfl, (Below.refl _ _).alloc (Nat.le_refl _) _⟩
  have t4 : decide (bg < 0) = false := by simp; omega
  by_cases h5 : ck < 0
  · have t5 : decide (ck < 0) = true := by simp; omega
    rw [show attB ⟨th, kd, bg, en, ck, pl, wt, dA, dc, evs⟩ = false from attB_false (by omega)]
    go_enter Try.func65, Try.ntmps65
    go_wp2_with fail
    go_ret
    exact ⟨rfl, (Below.refl _ _).alloc (Nat.le_refl _) _⟩
  have t5 : decide (ck < 0) = false := by simp; omega
  by_cases h6 : kd = 0
  · subst h6
    by_cases h7 : en = -1
    case neg =>
      have t8 : decide (en = -1) = false := by simp; omega
      rw [show attB ⟨th, 0, bg, en, ck, pl, wt, dA, dc, evs⟩ = false from attB_false (by omega)]
      go_enter Try.func65, Try.ntmps65
      go_wp2_with fail
      go_ret
      exact ⟨rfl, (Below.refl _ _).alloc (Nat.le_refl _) _⟩
    subst h7
    by_cases h8 : pl = 0
    case neg =>
      have t9 : decide (pl = 0) = false := by simp; omega
      rw [show attB ⟨th, 0, bg, (-1), ck, pl, wt, dA, dc, evs⟩ = false from attB_false (by omega)]
      go_enter Try.func65, Try.ntmps65
      go_wp2_with fail
      go_ret
      exact ⟨rfl, (Below.refl _ _).alloc (Nat.le_refl _) _⟩
    subst h8
    cases wt
    case true =>
      rw [show attB ⟨th, 0, bg, (-1), ck, 0, true, dA, dc, evs⟩ = false from attB_false (by simp)]
      go_enter Try.func65, Try.ntmps65
      go_wp2_with fail
      go_ret
      exact ⟨rfl, (Below.refl _ _).alloc (Nat.le_refl _) _⟩
    rw [attB_rest (by omega) (Or.inr ⟨rfl, rfl⟩)]
    obtain ⟨R, hR⟩ : ∃ R, evs.all (evB th) = R := ⟨_, rfl⟩
    rw [hR]
    have HR0 : Hid (R = (evs.drop 0).all (evB th)) := Lib.hid hR.symm
    clear hR
    obtain ⟨X, hX⟩ : ∃ X, w.heap.size = X := ⟨_, rfl⟩
    obtain ⟨w0, hw0⟩ : ∃ w0, w.alloc (.cells #[.int .i64 th, .int .u8 0, .int .i64 bg, .int .i64 (-1), .int .i64 ck, .int .i64 0, .bool false, .slice dA evs.length dc] 35 (0, 0)) = w0 := ⟨_, rfl⟩
    have HB0 : Hid (Below w.heap.size w w0) := Lib.hid (by rw [← hw0]; exact (Below.refl _ _).alloc (Nat.le_refl _) _)
    have HX0 : Hid (AttAt w0 X 0 ⟨th, 0, bg, (-1), ck, 0, false, dA, dc, evs⟩) := Lib.hid (by rw [← hw0, ← hX]; constructor <;> simp)
    have hXl : X < w0.heap.size := by rw [← hw0, ← hX]; simp
    have HA0 := Lib.hid (HA.out.keep (HB0.out.mono hB) (Nat.le_refl _))
    have HD := Lib.hid (fun W (h : Below w0.heap.size w0 W) => HX0.out.keep fun o' => h.cell (p := ⟨X, o', none⟩) hXl)
    have HEV := Lib.hid (fun W (h : Below w0.heap.size w0 W) => HA0.out.keep (h.mono (Nat.le_trans hB HB0.out.size)) (Nat.le_refl _))
    obtain ⟨a0, a1, a2, a3, a4, a5, a6, a7⟩ := HX0.out
    simp only [Nat.zero_add] at a0 a1 a2 a3 a4 a5 a6 a7
    have HXL := Lib.hid hXl
    clear HX0 HA0 hXl
    go_enter Try.func65, Try.ntmps65
    go_wp2_with fail
    clear hw0 hX a0 a1 a2 a3 a4 a5 a6 a7
    go_loopw [3] (fun i wr => ∃ k : Nat, i = .int .i64 k ∧ k ≤ evs.length ∧ Hid (R = (evs.drop k).all (evB th)) ∧ Hid (Below w0.heap.size w0 wr)) (fun i _ => evs.length - (intOf i).toNat)
    case atStart => exact ⟨0, rfl, Nat.zero_le _, HR0, Lib.hid (Below.refl _ _)⟩
    case round =>
      clear HR0
      obtain ⟨k, rfl, hk, hV, hW⟩ := hrel
      obtain ⟨a0, a1, a2, a3, a4, a5, a6, a7⟩ := HD.out _ hW.out
      simp only [Nat.zero_add] at a0 a1 a2 a3 a4 a5 a6 a7
      by_cases hlt : k < evs.length
      · obtain ⟨b, off, rfl, hbl, hc⟩ := HEV.out _ hW.out (by rintro rfl; simp at hlt)
        obtain ⟨e0, e1, e2, e3⟩ := hc k _ (List.getElem?_eq_getElem hlt)
        have hst : Hid ((evs.drop k).all (evB th) = (evB th evs[k] && (evs.drop (k + 1)).all (evB th))) := Lib.hid (by rw [List.drop_eq_getElem_cons hlt, List.all_cons])
        have HS := Lib.hid (fun W h => rfS_of (W := W) (Nat.lt_of_lt_of_le hbl (Nat.le_trans hB (Nat.le_trans HB0.out.size hW.out.size))) (HD.out _ hW.out) e0 e1 e2 e3 (Nat.lt_of_lt_of_le HXL.out hW.out.size) h)
        have HWW := Lib.hid (fun W (h : Below wr.heap.size wr W) => hW.out.trans (h.mono hW.out.size))
        have q1 : (k : Int) < (evs.length : Int) := by omega
        have q2 : (0 : Int) ≤ (k : Int) := Int.natCast_nonneg _
        have hHB := Lib.hid (HB0.out.size)
        clear hc
        generalize evs[k] = ev at *
        obtain ⟨eth, ekd, ea, eb⟩ := ev
        dsimp only at *
        cases hev : evB th ⟨eth, ekd, ea, eb⟩
        · have hF : Hid (R = false) := Lib.hid (by rw [hV.out, hst.out, hev]; rfl)
          clear hV hst hW
          go_wp2_with fail
          refine wp_region_L (l := 7) (S := (RfS wr X th 0 bg (-1) ck 0 false (.slice (some ⟨b, off, none⟩) evs.length dc) b (off + k * 4) eth ekd ea eb)) (by kernel_rfl) ?_ (fun hHeld => ?_)
          · ((try dsimp only); (exact HS.out _ (Below.refl _ _).drew))
          refine wpAnyL_take (i := 0) (oi := _) (v := ?v1) rfl (by kernel_rfl) (fun _ _ _ h => h) (by assumption) (Or.inl ⟨by kernel_rfl, ?y1⟩) ?r1
          case y1 => (intro w hSw; (try dsimp only at hSw); go_simp; all_goals with_reducible rfl)
          try simp only [Act.put, List.setIfInBounds_toArray, List.set_cons_zero, List.set_cons_succ]
          refine wpAnyL_take (i := 1) (oi := _) (v := ?v2) rfl (by kernel_rfl) (fun _ _ _ h => h) (by assumption) (Or.inl ⟨by kernel_rfl, ?y2⟩) ?r2
          case y2 => (intro w hSw; (try dsimp only at hSw); go_simp; all_goals with_reducible rfl)
          try simp only [Act.put, List.setIfInBounds_toArray, List.set_cons_zero, List.set_cons_succ]
          refine wpAnyL_take (i := 2) (oi := _) (v := ?v3) rfl (by kernel_rfl) (fun _ _ _ h => h) (by assumption) (Or.inl ⟨by kernel_rfl, ?y3⟩) ?r3
          case y3 => (intro w hSw; (try dsimp only at hSw); go_simp; all_goals with_reducible rfl)
          try simp only [Act.put, List.setIfInBounds_toArray, List.set_cons_zero, List.set_cons_succ]
          refine wpAnyL_take (i := 3) (oi := _) (v := ?v4) rfl (by kernel_rfl) (fun _ _ _ h => h) (by assumption) (Or.inl ⟨by kernel_rfl, ?y4⟩) ?r4
          case y4 => (intro w hSw; (try dsimp only at hSw); go_simp; all_goals with_reducible rfl)
          try simp only [Act.put, List.setIfInBounds_toArray, List.set_cons_zero, List.set_cons_succ]
          refine wpAnyL_take (i := 4) (oi := _) (v := ?v5) rfl (by kernel_rfl) (fun _ _ _ h => h) (by assumption) (Or.inl ⟨by kernel_rfl, ?y5⟩) ?r5
          case y5 => (intro w hSw; (try dsimp only at hSw); go_simp; all_goals with_reducible rfl)
          try simp only [Act.put, List.setIfInBounds_toArray, List.set_cons_zero, List.set_cons_succ]
          refine wpAnyL_take (i := 5) (oi := _) (v := ?v6) rfl (by kernel_rfl) (fun _ _ _ h => h) (by assumption) (Or.inl ⟨by kernel_rfl, ?y6⟩) ?r6
          case y6 => (intro w hSw; (try dsimp only at hSw); go_simp; all_goals with_reducible rfl)
          try simp only [Act.put, List.setIfInBounds_toArray, List.set_cons_zero, List.set_cons_succ]
          refine wpAnyL_step (j := 6) (o := _) (by kernel_rfl) rfl (fun K hK => ?_)
          (go_simp; go_at_call 79; refine (rfEvent_any _ _ _ _ _ _ _ _ _ _ _ _ _).mono ?_; rintro e w4 ⟨rfl, hb4⟩; rw [hev])
          refine hK _ _ ?_ (fun hHeld => ?_)
          · ((try dsimp only); (exact HS.out _ (hHeld.1.trans (hb4.mono hHeld.1.size))))
          clear hK K
          try simp only [Act.put, List.setIfInBounds_toArray, List.set_cons_zero, List.set_cons_succ]
          refine wpAnyL_last (j := 7) (o := _) (by kernel_rfl) rfl (by rfl) (by kernel_rfl) (fun K hK => ?_)
          go_simp
          (refine hK _ _ ?_; clear hK K)
          try simp only [Act.put, List.setIfInBounds_toArray, List.set_cons_zero, List.set_cons_succ]
          have hE := Lib.hid (HB0.out.trans ((HWW.out _ hHeld.1).mono HB0.out.size))
          clear hHeld
          go_wp2_with fail
          go_ret
          exact ⟨by first | (rw [hF.out]; done) | (rw [hF.out]; rfl), hE.out⟩
        · have hF : Hid (R = (evs.drop (k + 1)).all (evB th)) := Lib.hid (by rw [hV.out, hst.out, hev]; rfl)
          clear hV hst hW
          go_wp2_with fail
          refine wp_region_L (l := 7) (S := (RfS wr X th 0 bg (-1) ck 0 false (.slice (some ⟨b, off, none⟩) evs.length dc) b (off + k * 4) eth ekd ea eb)) (by kernel_rfl) ?_ (fun hHeld => ?_)
          · ((try dsimp only); (exact HS.out _ (Below.refl _ _).drew))
          refine wpAnyL_take (i := 0) (oi := _) (v := ?v9) rfl (by kernel_rfl) (fun _ _ _ h => h) (by assumption) (Or.inl ⟨by kernel_rfl, ?y9⟩) ?r9
          case y9 => (intro w hSw; (try dsimp only at hSw); go_simp; all_goals with_reducible rfl)
          try simp only [Act.put, List.setIfInBounds_toArray, List.set_cons_zero, List.set_cons_succ]
          refine wpAnyL_take (i := 1) (oi := _) (v := ?v10) rfl (by kernel_rfl) (fun _ _ _ h => h) (by assumption) (Or.inl ⟨by kernel_rfl, ?y10⟩) ?r10
          case y10 => (intro w hSw; (try dsimp only at hSw); go_simp; all_goals with_reducible rfl)
          try simp only [Act.put, List.setIfInBounds_toArray, List.set_cons_zero, List.set_cons_succ]
          refine wpAnyL_take (i := 2) (oi := _) (v := ?v11) rfl (by kernel_rfl) (fun _ _ _ h => h) (by assumption) (Or.inl ⟨by kernel_rfl, ?y11⟩) ?r11
          case y11 => (intro w hSw; (try dsimp only at hSw); go_simp; all_goals with_reducible rfl)
          try simp only [Act.put, List.setIfInBounds_toArray, List.set_cons_zero, List.set_cons_succ]
          refine wpAnyL_take (i := 3) (oi := _) (v := ?v12) rfl (by kernel_rfl) (fun _ _ _ h => h) (by assumption) (Or.inl ⟨by kernel_rfl, ?y12⟩) ?r12
          case y12 => (intro w hSw; (try dsimp only at hSw); go_simp; all_goals with_reducible rfl)
          try simp only [Act.put, List.setIfInBounds_toArray, List.set_cons_zero, List.set_cons_succ]
          refine wpAnyL_take (i := 4) (oi := _) (v := ?v13) rfl (by kernel_rfl) (fun _ _ _ h => h) (by assumption) (Or.inl ⟨by kernel_rfl, ?y13⟩) ?r13
          case y13 => (intro w hSw; (try dsimp only at hSw); go_simp; all_goals with_reducible rfl)
          try simp only [Act.put, List.setIfInBounds_toArray, List.set_cons_zero, List.set_cons_succ]
          refine wpAnyL_take (i := 5) (oi := _) (v := ?v14) rfl (by kernel_rfl) (fun _ _ _ h => h) (by assumption) (Or.inl ⟨by kernel_rfl, ?y14⟩) ?r14
          case y14 => (intro w hSw; (try dsimp only at hSw); go_simp; all_goals with_reducible rfl)
          try simp only [Act.put, List.setIfInBounds_toArray, List.set_cons_zero, List.set_cons_succ]
          refine wpAnyL_step (j := 6) (o := _) (by kernel_rfl) rfl (fun K hK => ?_)
          (go_simp; go_at_call 79; refine (rfEvent_any _ _ _ _ _ _ _ _ _ _ _ _ _).mono ?_; rintro e w4 ⟨rfl, hb4⟩; rw [hev])
          refine hK _ _ ?_ (fun hHeld => ?_)
          · ((try dsimp only); (exact HS.out _ (hHeld.1.trans (hb4.mono hHeld.1.size))))
          clear hK K
          try simp only [Act.put, List.setIfInBounds_toArray, List.set_cons_zero, List.set_cons_succ]
          refine wpAnyL_last (j := 7) (o := _) (by kernel_rfl) rfl (by rfl) (by kernel_rfl) (fun K hK => ?_)
          go_simp
          (refine hK _ _ ?_; clear hK K)
          try simp only [Act.put, List.setIfInBounds_toArray, List.set_cons_zero, List.set_cons_succ]
          have hE := Lib.hid (HWW.out _ hHeld.1)
          clear hHeld
          go_wp2_with fail
          go_roundw
          case rel => exact ⟨k + 1, by go_num, by omega, hF, hE⟩
          case measure => simp [intOf]; omega
      · have hkl : k = evs.length := by omega
        have hF : Hid (R = true) := Lib.hid (by rw [hV.out, List.drop_eq_nil_of_le (by omega)]; rfl)
        have hE := Lib.hid (HB0.out.trans (hW.out.mono HB0.out.size))
        clear hkl hV hW
        go_wp2_with fail
        go_ret
        exact ⟨by first | (rw [hF.out]; done) | (rw [hF.out]; rfl), hE.out⟩
  · have t6 : decide (kd = 0) = false := by simp; omega
    by_cases h7 : bg < en
    case neg =>
      have t8 : decide (en ≤ bg) = true := by simp; omega
      rw [show attB ⟨th, kd, bg, en, ck, pl, wt, dA, dc, evs⟩ = false from attB_false (by omega)]
      go_enter Try.func65, Try.ntmps65
      go_wp2_with fail
      go_ret
      exact ⟨rfl, (Below.refl _ _).alloc (Nat.le_refl _) _⟩
    have t8 : decide (en ≤ bg) = false := by simp; omega
    by_cases h9 : kd = 1
    · subst h9
      rw [attB_rest (by omega) (Or.inl rfl)]
      obtain ⟨R, hR⟩ : ∃ R, evs.all (evB th) = R := ⟨_, rfl⟩
      rw [hR]
      have HR0 : Hid (R = (evs.drop 0).all (evB th)) := Lib.hid hR.symm
      clear hR
      obtain ⟨X, hX⟩ : ∃ X, w.heap.size = X := ⟨_, rfl⟩
      obtain ⟨w0, hw0⟩ : ∃ w0, w.alloc (.cells #[.int .i64 th, .int .u8 1, .int .i64 bg, .int .i64 en, .int .i64 ck, .int .i64 pl, .bool wt, .slice dA evs.length dc] 35 (0, 0)) = w0 := ⟨_, rfl⟩
      have HB0 : Hid (Below w.heap.size w w0) := Lib.hid (by rw [← hw0]; exact (Below.refl _ _).alloc (Nat.le_refl _) _)
      have HX0 : Hid (AttAt w0 X 0 ⟨th, 1, bg, en, ck, pl, wt, dA, dc, evs⟩) := Lib.hid (by rw [← hw0, ← hX]; constructor <;> simp)
      have hXl : X < w0.heap.size := by rw [← hw0, ← hX]; simp
      have HA0 := Lib.hid (HA.out.keep (HB0.out.mono hB) (Nat.le_refl _))
      have HD := Lib.hid (fun W (h : Below w0.heap.size w0 W) => HX0.out.keep fun o' => h.cell (p := ⟨X, o', none⟩) hXl)
      have HEV := Lib.hid (fun W (h : Below w0.heap.size w0 W) => HA0.out.keep (h.mono (Nat.le_trans hB HB0.out.size)) (Nat.le_refl _))
      obtain ⟨a0, a1, a2, a3, a4, a5, a6, a7⟩ := HX0.out
      simp only [Nat.zero_add] at a0 a1 a2 a3 a4 a5 a6 a7
      have HXL := Lib.hid hXl
      clear HX0 HA0 hXl
      go_enter Try.func65, Try.ntmps65
      go_wp2_with fail
      clear hw0 hX a0 a1 a2 a3 a4 a5 a6 a7
      go_loopw [3] (fun i wr => ∃ k : Nat, i = .int .i64 k ∧ k ≤ evs.length ∧ Hid (R = (evs.drop k).all (evB th)) ∧ Hid (Below w0.heap.size w0 wr)) (fun i _ => evs.length - (intOf i).toNat)
      case atStart => exact ⟨0, rfl, Nat.zero_le _, HR0, Lib.hid (Below.refl _ _)⟩
      case round =>
        clear HR0
        obtain ⟨k, rfl, hk, hV, hW⟩ := hrel
        obtain ⟨a0, a1, a2, a3, a4, a5, a6, a7⟩ := HD.out _ hW.out
        simp only [Nat.zero_add] at a0 a1 a2 a3 a4 a5 a6 a7
        by_cases hlt : k < evs.length
        · obtain ⟨b, off, rfl, hbl, hc⟩ := HEV.out _ hW.out (by rintro rfl; simp at hlt)
          obtain ⟨e0, e1, e2, e3⟩ := hc k _ (List.getElem?_eq_getElem hlt)
          have hst : Hid ((evs.drop k).all (evB th) = (evB th evs[k] && (evs.drop (k + 1)).all (evB th))) := Lib.hid (by rw [List.drop_eq_getElem_cons hlt, List.all_cons])
          have HS := Lib.hid (fun W h => rfS_of (W := W) (Nat.lt_of_lt_of_le hbl (Nat.le_trans hB (Nat.le_trans HB0.out.size hW.out.size))) (HD.out _ hW.out) e0 e1 e2 e3 (Nat.lt_of_lt_of_le HXL.out hW.out.size) h)
          have HWW := Lib.hid (fun W (h : Below wr.heap.size wr W) => hW.out.trans (h.mono hW.out.size))
          have q1 : (k : Int) < (evs.length : Int) := by omega
          have q2 : (0 : Int) ≤ (k : Int) := Int.natCast_nonneg _
          have hHB := Lib.hid (HB0.out.size)
          clear hc
          generalize evs[k] = ev at *
          obtain ⟨eth, ekd, ea, eb⟩ := ev
          dsimp only at *
          cases hev : evB th ⟨eth, ekd, ea, eb⟩
          · have hF : Hid (R = false) := Lib.hid (by rw [hV.out, hst.out, hev]; rfl)
            clear hV hst hW
            go_wp2_with fail
            refine wp_region_L (l := 7) (S := (RfS wr X th 1 bg en ck pl wt (.slice (some ⟨b, off, none⟩) evs.length dc) b (off + k * 4) eth ekd ea eb)) (by kernel_rfl) ?_ (fun hHeld => ?_)
            · ((try dsimp only); (exact HS.out _ (Below.refl _ _).drew))
            refine wpAnyL_take (i := 0) (oi := _) (v := ?v17) rfl (by kernel_rfl) (fun _ _ _ h => h) (by assumption) (Or.inl ⟨by kernel_rfl, ?y17⟩) ?r17
            case y17 => (intro w hSw; (try dsimp only at hSw); go_simp; all_goals with_reducible rfl)
            try simp only [Act.put, List.setIfInBounds_toArray, List.set_cons_zero, List.set_cons_succ]
            refine wpAnyL_take (i := 1) (oi := _) (v := ?v18) rfl (by kernel_rfl) (fun _ _ _ h => h) (by assumption) (Or.inl ⟨by kernel_rfl, ?y18⟩) ?r18
            case y18 => (intro w hSw; (try dsimp only at hSw); go_simp; all_goals with_reducible rfl)
            try simp only [Act.put, List.setIfInBounds_toArray, List.set_cons_zero, List.set_cons_succ]
            refine wpAnyL_take (i := 2) (oi := _) (v := ?v19) rfl (by kernel_rfl) (fun _ _ _ h => h) (by assumption) (Or.inl ⟨by kernel_rfl, ?y19⟩) ?r19
            case y19 => (intro w hSw; (try dsimp only at hSw); go_simp; all_goals with_reducible rfl)
            try simp only [Act.put, List.setIfInBounds_toArray, List.set_cons_zero, List.set_cons_succ]
            refine wpAnyL_take (i := 3) (oi := _) (v := ?v20) rfl (by kernel_rfl) (fun _ _ _ h => h) (by assumption) (Or.inl ⟨by kernel_rfl, ?y20⟩) ?r20
            case y20 => (intro w hSw; (try dsimp only at hSw); go_simp; all_goals with_reducible rfl)
            try simp only [Act.put, List.setIfInBounds_toArray, List.set_cons_zero, List.set_cons_succ]
            refine wpAnyL_take (i := 4) (oi := _) (v := ?v21) rfl (by kernel_rfl) (fun _ _ _ h => h) (by assumption) (Or.inl ⟨by kernel_rfl, ?y21⟩) ?r21
            case y21 => (intro w hSw; (try dsimp only at hSw); go_simp; all_goals with_reducible rfl)
            try simp only [Act.put, List.setIfInBounds_toArray, List.set_cons_zero, List.set_cons_succ]
            refine wpAnyL_take (i := 5) (oi := _) (v := ?v22) rfl (by kernel_rfl) (fun _ _ _ h => h) (by assumption) (Or.inl ⟨by kernel_rfl, ?y22⟩) ?r22
            case y22 => (intro w hSw; (try dsimp only at hSw); go_simp; all_goals with_reducible rfl)
            try simp only [Act.put, List.setIfInBounds_toArray, List.set_cons_zero, List.set_cons_succ]
            refine wpAnyL_step (j := 6) (o := _) (by kernel_rfl) rfl (fun K hK => ?_)
            (go_simp; go_at_call 79; refine (rfEvent_any _ _ _ _ _ _ _ _ _ _ _ _ _).mono ?_; rintro e w4 ⟨rfl, hb4⟩; rw [hev])
            refine hK _ _ ?_ (fun hHeld => ?_)
            · ((try dsimp only); (exact HS.out _ (hHeld.1.trans (hb4.mono hHeld.1.size))))
            clear hK K
            try simp only [Act.put, List.setIfInBounds_toArray, List.set_cons_zero, List.set_cons_succ]
            refine wpAnyL_last (j := 7) (o := _) (by kernel_rfl) rfl (by rfl) (by kernel_rfl) (fun K hK => ?_)
            go_simp
            (refine hK _ _ ?_; clear hK K)
            try simp only [Act.put, List.setIfInBounds_toArray, List.set_cons_zero, List.set_cons_succ]
            have hE := Lib.hid (HB0.out.trans ((HWW.out _ hHeld.1).mono HB0.out.size))
            clear hHeld
            go_wp2_with fail
            go_ret
            exact ⟨by first | (rw [hF.out]; done) | (rw [hF.out]; rfl), hE.out⟩
          · have hF : Hid (R = (evs.drop (k + 1)).all (evB th)) := Lib.hid (by rw [hV.out, hst.out, hev]; rfl)
            clear hV hst hW
            go_wp2_with fail
            refine wp_region_L (l := 7) (S := (RfS wr X th 1 bg en ck pl wt (.slice (some ⟨b, off, none⟩) evs.length dc) b (off + k * 4) eth ekd ea eb)) (by kernel_rfl) ?_ (fun hHeld => ?_)
            · ((try dsimp only); (exact HS.out _ (Below.refl _ _).drew))
            refine wpAnyL_take (i := 0) (oi := _) (v := ?v25) rfl (by kernel_rfl) (fun _ _ _ h => h) (by assumption) (Or.inl ⟨by kernel_rfl, ?y25⟩) ?r25
            case y25 => (intro w hSw; (try dsimp only at hSw); go_simp; all_goals with_reducible rfl)
            try simp only [Act.put, List.setIfInBounds_toArray, List.set_cons_zero, List.set_cons_succ]
            refine wpAnyL_take (i := 1) (oi := _) (v := ?v26) rfl (by kernel_rfl) (fun _ _ _ h => h) (by assumption) (Or.inl ⟨by kernel_rfl, ?y26⟩) ?r26
            case y26 => (intro w hSw; (try dsimp only at hSw); go_simp; all_goals with_reducible rfl)
            try simp only [Act.put, List.setIfInBounds_toArray, List.set_cons_zero, List.set_cons_succ]
            refine wpAnyL_take (i := 2) (oi := _) (v := ?v27) rfl (by kernel_rfl) (fun _ _ _ h => h) (by assumption) (Or.inl ⟨by kernel_rfl, ?y27⟩) ?r27
            case y27 => (intro w hSw; (try dsimp only at hSw); go_simp; all_goals with_reducible rfl)
            try simp only [Act.put, List.setIfInBounds_toArray, List.set_cons_zero, List.set_cons_succ]
            refine wpAnyL_take (i := 3) (oi := _) (v := ?v28) rfl (by kernel_rfl) (fun _ _ _ h => h) (by assumption) (Or.inl ⟨by kernel_rfl, ?y28⟩) ?r28
            case y28 => (intro w hSw; (try dsimp only at hSw); go_simp; all_goals with_reducible rfl)
            try simp only [Act.put, List.setIfInBounds_toArray, List.set_cons_zero, List.set_cons_succ]
            refine wpAnyL_take (i := 4) (oi := _) (v := ?v29) rfl (by kernel_rfl) (fun _ _ _ h => h) (by assumption) (Or.inl ⟨by kernel_rfl, ?y29⟩) ?r29
            case y29 => (intro w hSw; (try dsimp only at hSw); go_simp; all_goals with_reducible rfl)
            try simp only [Act.put, List.setIfInBounds_toArray, List.set_cons_zero, List.set_cons_succ]
            refine wpAnyL_take (i := 5) (oi := _) (v := ?v30) rfl (by kernel_rfl) (fun _ _ _ h => h) (by assumption) (Or.inl ⟨by kernel_rfl, ?y30⟩) ?r30
            case y30 => (intro w hSw; (try dsimp only at hSw); go_simp; all_goals with_reducible rfl)
            try simp only [Act.put, List.setIfInBounds_toArray, List.set_cons_zero, List.set_cons_succ]
            refine wpAnyL_step (j := 6) (o := _) (by kernel_rfl) rfl (fun K hK => ?_)
            (go_simp; go_at_call 79; refine (rfEvent_any _ _ _ _ _ _ _ _ _ _ _ _ _).mono ?_; rintro e w4 ⟨rfl, hb4⟩; rw [hev])
            refine hK _ _ ?_ (fun hHeld => ?_)
            · ((try dsimp only); (exact HS.out _ (hHeld.1.trans (hb4.mono hHeld.1.size))))
            clear hK K
            try simp only [Act.put, List.setIfInBounds_toArray, List.set_cons_zero, List.set_cons_succ]
            refine wpAnyL_last (j := 7) (o := _) (by kernel_rfl) rfl (by rfl) (by kernel_rfl) (fun K hK => ?_)
            go_simp
            (refine hK _ _ ?_; clear hK K)
            try simp only [Act.put, List.setIfInBounds_toArray, List.set_cons_zero, List.set_cons_succ]
            have hE := Lib.hid (HWW.out _ hHeld.1)
            clear hHeld
            go_wp2_with fail
            go_roundw
            case rel => exact ⟨k + 1, by go_num, by omega, hF, hE⟩
            case measure => simp [intOf]; omega
        · have hkl : k = evs.length := by omega
          have hF : Hid (R = true) := Lib.hid (by rw [hV.out, List.drop_eq_nil_of_le (by omega)]; rfl)
          have hE := Lib.hid (HB0.out.trans (hW.out.mono HB0.out.size))
          clear hkl hV hW
          go_wp2_with fail
          go_ret
          exact ⟨by first | (rw [hF.out]; done) | (rw [hF.out]; rfl), hE.out⟩
    · have t7 : decide (kd = 1) = false := by simp; omega
      by_cases h8 : pl = 0
      case neg =>
        have t9 : decide (pl = 0) = false := by simp; omega
        rw [show attB ⟨th, kd, bg, en, ck, pl, wt, dA, dc, evs⟩ = false from attB_false (by omega)]
        go_enter Try.func65, Try.ntmps65
        go_wp2_with fail
        go_ret
        exact ⟨rfl, (Below.refl _ _).alloc (Nat.le_refl _) _⟩
      subst h8
      cases wt
      case true =>
        rw [show attB ⟨th, kd, bg, en, ck, 0, true, dA, dc, evs⟩ = false from attB_false (by simp; omega)]
        go_enter Try.func65, Try.ntmps65
        go_wp2_with fail
        go_ret
        exact ⟨rfl, (Below.refl _ _).alloc (Nat.le_refl _) _⟩
      rw [attB_rest (by omega) (Or.inr ⟨rfl, rfl⟩)]
      obtain ⟨R, hR⟩ : ∃ R, evs.all (evB th) = R := ⟨_, rfl⟩
      rw [hR]
      have HR0 : Hid (R = (evs.drop 0).all (evB th)) := Lib.hid hR.symm
      clear hR
      obtain ⟨X, hX⟩ : ∃ X, w.heap.size = X := ⟨_, rfl⟩
      obtain ⟨w0, hw0⟩ : ∃ w0, w.alloc (.cells #[.int .i64 th, .int .u8 kd, .int .i64 bg, .int .i64 en, .int .i64 ck, .int .i64 0, .bool false, .slice dA evs.length dc] 35 (0, 0)) = w0 := ⟨_, rfl⟩
      have HB0 : Hid (Below w.heap.size w w0) := Lib.hid (by rw [← hw0]; exact (Below.refl _ _).alloc (Nat.le_refl _) _)
      have HX0 : Hid (AttAt w0 X 0 ⟨th, kd, bg, en, ck, 0, false, dA, dc, evs⟩) := Lib.hid (by rw [← hw0, ← hX]; constructor <;> simp)
      have hXl : X < w0.heap.size := by rw [← hw0, ← hX]; simp
      have HA0 := Lib.hid (HA.out.keep (HB0.out.mono hB) (Nat.le_refl _))
      have HD := Lib.hid (fun W (h : Below w0.heap.size w0 W) => HX0.out.keep fun o' => h.cell (p := ⟨X, o', none⟩) hXl)
      have HEV := Lib.hid (fun W (h : Below w0.heap.size w0 W) => HA0.out.keep (h.mono (Nat.le_trans hB HB0.out.size)) (Nat.le_refl _))
      obtain ⟨a0, a1, a2, a3, a4, a5, a6, a7⟩ := HX0.out
      simp only [Nat.zero_add] at a0 a1 a2 a3 a4 a5 a6 a7
      have HXL := Lib.hid hXl
      clear HX0 HA0 hXl
      go_enter Try.func65, Try.ntmps65
      go_wp2_with fail
      clear hw0 hX a0 a1 a2 a3 a4 a5 a6 a7
      go_loopw [3] (fun i wr => ∃ k : Nat, i = .int .i64 k ∧ k ≤ evs.length ∧ Hid (R = (evs.drop k).all (evB th)) ∧ Hid (Below w0.heap.size w0 wr)) (fun i _ => evs.length - (intOf i).toNat)
      case atStart => exact ⟨0, rfl, Nat.zero_le _, HR0, Lib.hid (Below.refl _ _)⟩
      case round =>
        clear HR0
        obtain ⟨k, rfl, hk, hV, hW⟩ := hrel
        obtain ⟨a0, a1, a2, a3, a4, a5, a6, a7⟩ := HD.out _ hW.out
        simp only [Nat.zero_add] at a0 a1 a2 a3 a4 a5 a6 a7
        by_cases hlt : k < evs.length
        · obtain ⟨b, off, rfl, hbl, hc⟩ := HEV.out _ hW.out (by rintro rfl; simp at hlt)
          obtain ⟨e0, e1, e2, e3⟩ := hc k _ (List.getElem?_eq_getElem hlt)
          have hst : Hid ((evs.drop k).all (evB th) = (evB th evs[k] && (evs.drop (k + 1)).all (evB th))) := Lib.hid (by rw [List.drop_eq_getElem_cons hlt, List.all_cons])
          have HS := Lib.hid (fun W h => rfS_of (W := W) (Nat.lt_of_lt_of_le hbl (Nat.le_trans hB (Nat.le_trans HB0.out.size hW.out.size))) (HD.out _ hW.out) e0 e1 e2 e3 (Nat.lt_of_lt_of_le HXL.out hW.out.size) h)
          have HWW := Lib.hid (fun W (h : Below wr.heap.size wr W) => hW.out.trans (h.mono hW.out.size))
          have q1 : (k : Int) < (evs.length : Int) := by omega
          have q2 : (0 : Int) ≤ (k : Int) := Int.natCast_nonneg _
          have hHB := Lib.hid (HB0.out.size)
          clear hc
          generalize evs[k] = ev at *
          obtain ⟨eth, ekd, ea, eb⟩ := ev
          dsimp only at *
          cases hev : evB th ⟨eth, ekd, ea, eb⟩
          · have hF : Hid (R = false) := Lib.hid (by rw [hV.out, hst.out, hev]; rfl)
            clear hV hst hW
            go_wp2_with fail
            refine wp_region_L (l := 7) (S := (RfS wr X th kd bg en ck 0 false (.slice (some ⟨b, off, none⟩) evs.length dc) b (off + k * 4) eth ekd ea eb)) (by kernel_rfl) ?_ (fun hHeld => ?_)
            · ((try dsimp only); (exact HS.out _ (Below.refl _ _).drew))
            refine wpAnyL_take (i := 0) (oi := _) (v := ?v33) rfl (by kernel_rfl) (fun _ _ _ h => h) (by assumption) (Or.inl ⟨by kernel_rfl, ?y33⟩) ?r33
            case y33 => (intro w hSw; (try dsimp only at hSw); go_simp; all_goals with_reducible rfl)
            try simp only [Act.put, List.setIfInBounds_toArray, List.set_cons_zero, List.set_cons_succ]
            refine wpAnyL_take (i := 1) (oi := _) (v := ?v34) rfl (by kernel_rfl) (fun _ _ _ h => h) (by assumption) (Or.inl ⟨by kernel_rfl, ?y34⟩) ?r34
            case y34 => (intro w hSw; (try dsimp only at hSw); go_simp; all_goals with_reducible rfl)
            try simp only [Act.put, List.setIfInBounds_toArray, List.set_cons_zero, List.set_cons_succ]
            refine wpAnyL_take (i := 2) (oi := _) (v := ?v35) rfl (by kernel_rfl) (fun _ _ _ h => h) (by assumption) (Or.inl ⟨by kernel_rfl, ?y35⟩) ?r35
            case y35 => (intro w hSw; (try dsimp only at hSw); go_simp; all_goals with_reducible rfl)
            try simp only [Act.put, List.setIfInBounds_toArray, List.set_cons_zero, List.set_cons_succ]
            refine wpAnyL_take (i := 3) (oi := _) (v := ?v36) rfl (by kernel_rfl) (fun _ _ _ h => h) (by assumption) (Or.inl ⟨by kernel_rfl, ?y36⟩) ?r36
            case y36 => (intro w hSw; (try dsimp only at hSw); go_simp; all_goals with_reducible rfl)
            try simp only [Act.put, List.setIfInBounds_toArray, List.set_cons_zero, List.set_cons_succ]
            refine wpAnyL_take (i := 4) (oi := _) (v := ?v37) rfl (by kernel_rfl) (fun _ _ _ h => h) (by assumption) (Or.inl ⟨by kernel_rfl, ?y37⟩) ?r37
            case y37 => (intro w hSw; (try dsimp only at hSw); go_simp; all_goals with_reducible rfl)
            try simp only [Act.put, List.setIfInBounds_toArray, List.set_cons_zero, List.set_cons_succ]
            refine wpAnyL_take (i := 5) (oi := _) (v := ?v38) rfl (by kernel_rfl) (fun _ _ _ h => h) (by assumption) (Or.inl ⟨by kernel_rfl, ?y38⟩) ?r38
            case y38 => (intro w hSw; (try dsimp only at hSw); go_simp; all_goals with_reducible rfl)
            try simp only [Act.put, List.setIfInBounds_toArray, List.set_cons_zero, List.set_cons_succ]
            refine wpAnyL_step (j := 6) (o := _) (by kernel_rfl) rfl (fun K hK => ?_)
            (go_simp; go_at_call 79; refine (rfEvent_any _ _ _ _ _ _ _ _ _ _ _ _ _).mono ?_; rintro e w4 ⟨rfl, hb4⟩; rw [hev])
            refine hK _ _ ?_ (fun hHeld => ?_)
            · ((try dsimp only); (exact HS.out _ (hHeld.1.trans (hb4.mono hHeld.1.size))))
            clear hK K
            try simp only [Act.put, List.setIfInBounds_toArray, List.set_cons_zero, List.set_cons_succ]
            refine wpAnyL_last (j := 7) (o := _) (by kernel_rfl) rfl (by rfl) (by kernel_rfl) (fun K hK => ?_)
            go_simp
            (refine hK _ _ ?_; clear hK K)
            try simp only [Act.put, List.setIfInBounds_toArray, List.set_cons_zero, List.set_cons_succ]
            have hE := Lib.hid (HB0.out.trans ((HWW.out _ hHeld.1).mono HB0.out.size))
            clear hHeld
            go_wp2_with fail
            go_ret
            exact ⟨by first | (rw [hF.out]; done) | (rw [hF.out]; rfl), hE.out⟩
          · have hF : Hid (R = (evs.drop (k + 1)).all (evB th)) := Lib.hid (by rw [hV.out, hst.out, hev]; rfl)
            clear hV hst hW
            go_wp2_with fail
            refine wp_region_L (l := 7) (S := (RfS wr X th kd bg en ck 0 false (.slice (some ⟨b, off, none⟩) evs.length dc) b (off + k * 4) eth ekd ea eb)) (by kernel_rfl) ?_ (fun hHeld => ?_)
            · ((try dsimp only); (exact HS.out _ (Below.refl _ _).drew))
            refine wpAnyL_take (i := 0) (oi := _) (v := ?v41) rfl (by kernel_rfl) (fun _ _ _ h => h) (by assumption) (Or.inl ⟨by kernel_rfl, ?y41⟩) ?r41
            case y41 => (intro w hSw; (try dsimp only at hSw); go_simp; all_goals with_reducible rfl)
            try simp only [Act.put, List.setIfInBounds_toArray, List.set_cons_zero, List.set_cons_succ]
            refine wpAnyL_take (i := 1) (oi := _) (v := ?v42) rfl (by kernel_rfl) (fun _ _ _ h => h) (by assumption) (Or.inl ⟨by kernel_rfl, ?y42⟩) ?r42
            case y42 => (intro w hSw; (try dsimp only at hSw); go_simp; all_goals with_reducible rfl)
            try simp only [Act.put, List.setIfInBounds_toArray, List.set_cons_zero, List.set_cons_succ]
            refine wpAnyL_take (i := 2) (oi := _) (v := ?v43) rfl (by kernel_rfl) (fun _ _ _ h => h) (by assumption) (Or.inl ⟨by kernel_rfl, ?y43⟩) ?r43
            case y43 => (intro w hSw; (try dsimp only at hSw); go_simp; all_goals with_reducible rfl)
            try simp only [Act.put, List.setIfInBounds_toArray, List.set_cons_zero, List.set_cons_succ]
            refine wpAnyL_take (i := 3) (oi := _) (v := ?v44) rfl (by kernel_rfl) (fun _ _ _ h => h) (by assumption) (Or.inl ⟨by kernel_rfl, ?y44⟩) ?r44
            case y44 => (intro w hSw; (try dsimp only at hSw); go_simp; all_goals with_reducible rfl)
            try simp only [Act.put, List.setIfInBounds_toArray, List.set_cons_zero, List.set_cons_succ]
            refine wpAnyL_take (i := 4) (oi := _) (v := ?v45) rfl (by kernel_rfl) (fun _ _ _ h => h) (by assumption) (Or.inl ⟨by kernel_rfl, ?y45⟩) ?r45
            case y45 => (intro w hSw; (try dsimp only at hSw); go_simp; all_goals with_reducible rfl)
            try simp only [Act.put, List.setIfInBounds_toArray, List.set_cons_zero, List.set_cons_succ]
            refine wpAnyL_take (i := 5) (oi := _) (v := ?v46) rfl (by kernel_rfl) (fun _ _ _ h => h) (by assumption) (Or.inl ⟨by kernel_rfl, ?y46⟩) ?r46
            case y46 => (intro w hSw; (try dsimp only at hSw); go_simp; all_goals with_reducible rfl)
            try simp only [Act.put, List.setIfInBounds_toArray, List.set_cons_zero, List.set_cons_succ]
            refine wpAnyL_step (j := 6) (o := _) (by kernel_rfl) rfl (fun K hK => ?_)
            (go_simp; go_at_call 79; refine (rfEvent_any _ _ _ _ _ _ _ _ _ _ _ _ _).mono ?_; rintro e w4 ⟨rfl, hb4⟩; rw [hev])
            refine hK _ _ ?_ (fun hHeld => ?_)
            · ((try dsimp only); (exact HS.out _ (hHeld.1.trans (hb4.mono hHeld.1.size))))
            clear hK K
            try simp only [Act.put, List.setIfInBounds_toArray, List.set_cons_zero, List.set_cons_succ]
            refine wpAnyL_last (j := 7) (o := _) (by kernel_rfl) rfl (by rfl) (by kernel_rfl) (fun K hK => ?_)
            go_simp
            (refine hK _ _ ?_; clear hK K)
            try simp only [Act.put, List.setIfInBounds_toArray, List.set_cons_zero, List.set_cons_succ]
            have hE := Lib.hid (HWW.out _ hHeld.1)
            clear hHeld
            go_wp2_with fail
            go_roundw
            case rel => exact ⟨k + 1, by go_num, by omega, hF, hE⟩
            case measure => simp [intOf]; omega
        · have hkl : k = evs.length := by omega
          have hF : Hid (R = true) := Lib.hid (by rw [hV.out, List.drop_eq_nil_of_le (by omega)]; rfl)
          have hE := Lib.hid (HB0.out.trans (hW.out.mono HB0.out.size))
          clear hkl hV hW
          go_wp2_with fail
          go_ret
          exact ⟨by first | (rw [hF.out]; done) | (rw [hF.out]; rfl), hE.out⟩
end Go.Proofs.Ytjaegddnikkibaa
