/-
  The reference's event, walked.
-/
import Derived.Test.YtjaegddnikkibaaGreatDoorMayEv
import Derived.Test.YtjaegddnikkibaaGreatDoorMayTwo
import Derived.Test.YtjaegddnikkibaaGreatDoorChkd
set_option linter.unusedVariables false
set_option linter.unusedSimpArgs false
namespace Go.Proofs.YtjaegddnikkibaaGreatDoor
open Go.RowKit Go.Sort

set_option maxHeartbeats 2000000 in
set_option maxRecDepth 100000 in
theorem rfEvent_any (xth xkd xbg xen xck xpl : Int) (xwr : Bool) (xd : Value) (th kd ea eb : Int) (w : World) :
    Calls Tryz.prog 202 #[.agg #[.int .i64 xth, .int .u8 xkd, .int .i64 xbg, .int .i64 xen, .int .i64 xck, .int .i64 xpl, .bool xwr, xd], .agg #[.int .i64 th, .int .u8 kd, .int .i64 ea, .int .i64 eb]] w fun e w' => e = .returned (.bool (evB xth ⟨th, kd, ea, eb⟩)) ∧ Below w.heap.size w w' := by
  by_cases h1 : th = xth
  · have k1 : (th == xth) = true := by simp; omega
    have k1b : (th != xth) = false := by simp; omega
    by_cases h2 : 0 ≤ ea
    · have k2 : decide (ea < 0) = false := by simp; omega
      by_cases h3 : ea < 262144
      · have k3 : decide (262144 ≤ ea) = false := by simp; omega
        by_cases h4 : kd = 6
        · subst h4
          have k0 : IntKind.i64.wrap (ea + eb) = IntKind.i64.wrap (ea + eb) := rfl
          by_cases h5 : 0 ≤ eb
          · have k5 : decide (0 ≤ eb) = true := by simp; omega
            by_cases h6 : eb ≤ 64
            · have k6 : decide (eb ≤ 64) = true := by simp; omega
              have k0 : IntKind.i64.wrap (ea + eb) = ea + eb := by rw [IntKind.wrap_i64]; omega
              by_cases h7 : ea + eb ≤ 262144
              · have k7 : decide (ea + eb ≤ 262144) = true := by simp; omega
                rw [show evB xth ⟨th, 6, ea, eb⟩ = true from evB_true (by omega)]
                go_enter Tryz.func202, Tryz.ntmps202
                go_wp2_with fail
                go_ret
                exact ⟨rfl, ((Below.refl _ _).alloc (Nat.le_refl _) _).alloc (by simp) _⟩
              · have k7 : decide (ea + eb ≤ 262144) = false := by simp; omega
                rw [show evB xth ⟨th, 6, ea, eb⟩ = false from evB_false (by omega)]
                go_enter Tryz.func202, Tryz.ntmps202
                go_wp2_with fail
                go_ret
                exact ⟨rfl, ((Below.refl _ _).alloc (Nat.le_refl _) _).alloc (by simp) _⟩
            · have k6 : decide (eb ≤ 64) = false := by simp; omega
              rw [show evB xth ⟨th, 6, ea, eb⟩ = false from evB_false (by omega)]
              go_enter Tryz.func202, Tryz.ntmps202
              go_wp2_with fail
              go_ret
              exact ⟨rfl, ((Below.refl _ _).alloc (Nat.le_refl _) _).alloc (by simp) _⟩
          · have k5 : decide (0 ≤ eb) = false := by simp; omega
            rw [show evB xth ⟨th, 6, ea, eb⟩ = false from evB_false (by omega)]
            go_enter Tryz.func202, Tryz.ntmps202
            go_wp2_with fail
            go_ret
            exact ⟨rfl, ((Below.refl _ _).alloc (Nat.le_refl _) _).alloc (by simp) _⟩
        · by_cases h8 : kd = 2 ∨ kd = 3 ∨ kd = 4 ∨ kd = 5
          · rcases h8 with rfl | rfl | rfl | rfl
            · skip
              rw [show evB xth ⟨th, 2, ea, eb⟩ = true from evB_true (by omega)]
              go_enter Tryz.func202, Tryz.ntmps202
              go_wp2_with fail
              go_ret
              exact ⟨rfl, ((Below.refl _ _).alloc (Nat.le_refl _) _).alloc (by simp) _⟩
            · skip
              rw [show evB xth ⟨th, 3, ea, eb⟩ = true from evB_true (by omega)]
              go_enter Tryz.func202, Tryz.ntmps202
              go_wp2_with fail
              go_ret
              exact ⟨rfl, ((Below.refl _ _).alloc (Nat.le_refl _) _).alloc (by simp) _⟩
            · skip
              rw [show evB xth ⟨th, 4, ea, eb⟩ = true from evB_true (by omega)]
              go_enter Tryz.func202, Tryz.ntmps202
              go_wp2_with fail
              go_ret
              exact ⟨rfl, ((Below.refl _ _).alloc (Nat.le_refl _) _).alloc (by simp) _⟩
            · skip
              rw [show evB xth ⟨th, 5, ea, eb⟩ = true from evB_true (by omega)]
              go_enter Tryz.func202, Tryz.ntmps202
              go_wp2_with fail
              go_ret
              exact ⟨rfl, ((Below.refl _ _).alloc (Nat.le_refl _) _).alloc (by simp) _⟩
          · have g2 : (kd == 2) = false := by simp; omega
            have g3 : (kd == 3) = false := by simp; omega
            have g4 : (kd == 4) = false := by simp; omega
            have g5 : (kd == 5) = false := by simp; omega
            have g6 : (kd == 6) = false := by simp; omega
            rw [show evB xth ⟨th, kd, ea, eb⟩ = false from evB_false (by omega)]
            go_enter Tryz.func202, Tryz.ntmps202
            go_wp2_with fail
            go_ret
            exact ⟨rfl, ((Below.refl _ _).alloc (Nat.le_refl _) _).alloc (by simp) _⟩
      · have k3 : decide (262144 ≤ ea) = true := by simp; omega
        rw [show evB xth ⟨th, kd, ea, eb⟩ = false from evB_false (by omega)]
        go_enter Tryz.func202, Tryz.ntmps202
        go_wp2_with fail
        go_ret
        exact ⟨rfl, ((Below.refl _ _).alloc (Nat.le_refl _) _).alloc (by simp) _⟩
    · have k2 : decide (ea < 0) = true := by simp; omega
      rw [show evB xth ⟨th, kd, ea, eb⟩ = false from evB_false (by omega)]
      go_enter Tryz.func202, Tryz.ntmps202
      go_wp2_with fail
      go_ret
      exact ⟨rfl, ((Below.refl _ _).alloc (Nat.le_refl _) _).alloc (by simp) _⟩
  · have k1 : (th == xth) = false := by simp; omega
    have k1b : (th != xth) = true := by simp; omega
    rw [show evB xth ⟨th, kd, ea, eb⟩ = false from evB_false (by omega)]
    go_enter Tryz.func202, Tryz.ntmps202
    go_wp2_with fail
    go_ret
    exact ⟨rfl, ((Below.refl _ _).alloc (Nat.le_refl _) _).alloc (by simp) _⟩
end Go.Proofs.YtjaegddnikkibaaGreatDoor
namespace Go.Proofs.YtjaegddnikkibaaGreatDoor
open Go.RowKit Go.Sort

abbrev RfS (w0 : World) (X : Nat) (th kd bg en ck pl : Int) (wt : Bool) (dv : Value) (b o : Nat) (eth ekd ea eb : Int) (W : World) : Prop :=
  Below w0.heap.size w0 W ∧ W.cell? ⟨X, 0, none⟩ = some (.int .i64 th) ∧ W.cell? ⟨X, 1, none⟩ = some (.int .u8 kd) ∧ W.cell? ⟨X, 2, none⟩ = some (.int .i64 bg) ∧ W.cell? ⟨X, 3, none⟩ = some (.int .i64 en) ∧ W.cell? ⟨X, 4, none⟩ = some (.int .i64 ck) ∧
    W.cell? ⟨X, 5, none⟩ = some (.int .i64 pl) ∧ W.cell? ⟨X, 6, none⟩ = some (.bool wt) ∧ W.cell? ⟨X, 7, none⟩ = some dv ∧
    W.cell? ⟨b, o, none⟩ = some (.int .i64 eth) ∧ W.cell? ⟨b, o + 1, none⟩ = some (.int .u8 ekd) ∧ W.cell? ⟨b, o + 2, none⟩ = some (.int .i64 ea) ∧ W.cell? ⟨b, o + 3, none⟩ = some (.int .i64 eb)
theorem rfS_of {w0 W : World} {X b o : Nat} {x : Att} {eth ekd ea eb : Int} (hb : b < w0.heap.size) (h : AttAt w0 X 0 x) (e0 : w0.cell? ⟨b, o, none⟩ = some (.int .i64 eth)) (e1 : w0.cell? ⟨b, o + 1, none⟩ = some (.int .u8 ekd)) (e2 : w0.cell? ⟨b, o + 2, none⟩ = some (.int .i64 ea)) (e3 : w0.cell? ⟨b, o + 3, none⟩ = some (.int .i64 eb)) (hX : X < w0.heap.size) (hW : Below w0.heap.size w0 W) :
    RfS w0 X x.th x.kd x.bg x.en x.ck x.pl x.wr (.slice x.dA x.evs.length x.dc) b o eth ekd ea eb W := by
  obtain ⟨a0, a1, a2, a3, a4, a5, a6, a7⟩ := h.keep fun o' => hW.cell (p := ⟨X, o', none⟩) hX
  simp only [Nat.zero_add] at a0 a1 a2 a3 a4 a5 a6 a7
  exact ⟨hW, a0, a1, a2, a3, a4, a5, a6, a7, (hW.cell (p := ⟨b, o, none⟩) hb).trans e0, (hW.cell (p := ⟨b, o + 1, none⟩) hb).trans e1, (hW.cell (p := ⟨b, o + 2, none⟩) hb).trans e2, (hW.cell (p := ⟨b, o + 3, none⟩) hb).trans e3⟩

set_option maxHeartbeats 4000000 in
set_option maxRecDepth 100000 in
theorem rfAttempt_any (th kd bg en ck pl : Int) (wt : Bool) (dA : Option Addr) (dc : Nat) (evs : List Ev) (B : Nat) (hx : (⟨th, kd, bg, en, ck, pl, wt, dA, dc, evs⟩ : Att).Ok) (w : World) (ha : EvsAt w B dA evs) (hB : B ≤ w.heap.size) :
    Calls Tryz.prog 132 #[.agg #[.int .i64 th, .int .u8 kd, .int .i64 bg, .int .i64 en, .int .i64 ck, .int .i64 pl,   .bool wt, .slice dA evs.length dc]] w fun e w' => e = .returned (.bool (attB ⟨th, kd, bg, en, ck, pl, wt, dA, dc, evs⟩)) ∧ Below w.heap.size w w' := by
  have hxl := hx.len
  have HA := Lib.hid ha
  clear hx ha
  dsimp only at hxl
  by_cases h1 : th < 0
  · have t1 : decide (th < 0) = true := by simp; omega
    rw [show attB ⟨th, kd, bg, en, ck, pl, wt, dA, dc, evs⟩ = false from attB_false (by omega)]
    go_enter Tryz.func132, Tryz.ntmps132
    go_wp2_with fail
    go_ret
    exact ⟨rfl, (Below.refl _ _).alloc (Nat.le_refl _) _⟩
  have t1 : decide (th < 0) = false := by simp; omega
  by_cases h2 : th < 4
  case neg =>
    have t2 : decide (4 ≤ th) = true := by simp; omega
    rw [show attB ⟨th, kd, bg, en, ck, pl, wt, dA, dc, evs⟩ = false from attB_false (by omega)]
    go_enter Tryz.func132, Tryz.ntmps132
    go_wp2_with fail
    go_ret
    exact ⟨rfl, (Below.refl _ _).alloc (Nat.le_refl _) _⟩
  have t2 : decide (4 ≤ th) = false := by simp; omega
  by_cases h3 : 3 < kd
  · have t3 : decide (3 < kd) = true := by simp; omega
    rw [show attB ⟨th, kd, bg, en, ck, pl, wt, dA, dc, evs⟩ = false from attB_false (by omega)]
    go_enter Tryz.func132, Tryz.ntmps132
    go_wp2_with fail
    go_ret
    exact ⟨rfl, (Below.refl _ _).alloc (Nat.le_refl _) _⟩
  have t3 : decide (3 < kd) = false := by simp; omega
  by_cases h4 : bg < 0
  · have t4 : decide (bg < 0) = true := by simp; omega
    rw [show attB ⟨th, kd, bg, en, ck, pl, wt, dA, dc, evs⟩ = false from attB_false (by omega)]
    go_enter Tryz.func132, Tryz.ntmps132
    go_wp2_with fail
    go_ret
    exact ⟨rfl, (Below.refl _ _).alloc (Nat.le_refl _) _⟩
  have t4 : decide (bg < 0) = false := by simp; omega
  by_cases h5 : ck < 0
  · have t5 : decide (ck < 0) = true := by simp; omega
    rw [show attB ⟨th, kd, bg, en, ck, pl, wt, dA, dc, evs⟩ = false from attB_false (by omega)]
    go_enter Tryz.func132, Tryz.ntmps132
    go_wp2_with fail
    go_ret
    exact ⟨rfl, (Below.refl _ _).alloc (Nat.le_refl _) _⟩
  have t5 : decide (ck < 0) = false := by simp; omega
  by_cases h6 : kd = 0
  · subst h6
    by_cases h7 : en = -1
    case neg =>
      have t8 : decide (en = -1) = false := by simp; omega
      rw [show attB ⟨th, 0, bg, en, ck, pl, wt, dA, dc, evs⟩ = false from attB_false (by omega)]
      go_enter Tryz.func132, Tryz.ntmps132
      go_wp2_with fail
      go_ret
      exact ⟨rfl, (Below.refl _ _).alloc (Nat.le_refl _) _⟩
    subst h7
    by_cases h8 : pl = 0
    case neg =>
      have t9 : decide (pl = 0) = false := by simp; omega
      rw [show attB ⟨th, 0, bg, (-1), ck, pl, wt, dA, dc, evs⟩ = false from attB_false (by omega)]
      go_enter Tryz.func132, Tryz.ntmps132
      go_wp2_with fail
      go_ret
      exact ⟨rfl, (Below.refl _ _).alloc (Nat.le_refl _) _⟩
    subst h8
    cases wt
    case true =>
      rw [show attB ⟨th, 0, bg, (-1), ck, 0, true, dA, dc, evs⟩ = false from attB_false (by simp)]
      go_enter Tryz.func132, Tryz.ntmps132
      go_wp2_with fail
      go_ret
      exact ⟨rfl, (Below.refl _ _).alloc (Nat.le_refl _) _⟩
    rw [attB_rest (by omega) (Or.inr ⟨rfl, rfl⟩)]
    obtain ⟨R, hR⟩ : ∃ R, evs.all (evB th) = R := ⟨_, rfl⟩
    rw [hR]
    have HR0 : Hid (R = (evs.drop 0).all (evB th)) := Lib.hid hR.symm
    clear hR
    obtain ⟨X, hX⟩ : ∃ X, w.heap.size = X := ⟨_, rfl⟩
    obtain ⟨w0, hw0⟩ : ∃ w0, w.alloc (.cells #[.int .i64 th, .int .u8 0, .int .i64 bg, .int .i64 (-1), .int .i64 ck, .int .i64 0, .bool false, .slice dA evs.length dc] 74 (0, 0)) = w0 := ⟨_, rfl⟩
    have HB0 : Hid (Below w.heap.size w w0) := Lib.hid (by rw [← hw0]; exact (Below.refl _ _).alloc (Nat.le_refl _) _)
    have HX0 : Hid (AttAt w0 X 0 ⟨th, 0, bg, (-1), ck, 0, false, dA, dc, evs⟩) := Lib.hid (by rw [← hw0, ← hX]; constructor <;> simp)
    have hXl : X < w0.heap.size := by rw [← hw0, ← hX]; simp
    have HA0 := Lib.hid (HA.out.keep (HB0.out.mono hB) (Nat.le_refl _))
    have HD := Lib.hid (fun W (h : Below w0.heap.size w0 W) => HX0.out.keep fun o' => h.cell (p := ⟨X, o', none⟩) hXl)
    have HEV := Lib.hid (fun W (h : Below w0.heap.size w0 W) => HA0.out.keep (h.mono (Nat.le_trans hB HB0.out.size)) (Nat.le_refl _))
    obtain ⟨a0, a1, a2, a3, a4, a5, a6, a7⟩ := HX0.out
    simp only [Nat.zero_add] at a0 a1 a2 a3 a4 a5 a6 a7
    have HXL := Lib.hid hXl
    clear HX0 HA0 hXl
    go_enter Tryz.func132, Tryz.ntmps132
    go_wp2_with fail
    clear hw0 hX a0 a1 a2 a3 a4 a5 a6 a7
    go_loopw [3] (fun i wr => ∃ k : Nat, i = .int .i64 k ∧ k ≤ evs.length ∧ Hid (R = (evs.drop k).all (evB th)) ∧ Hid (Below w0.heap.size w0 wr)) (fun i _ => evs.length - (intOf i).toNat)
    case atStart => exact ⟨0, rfl, Nat.zero_le _, HR0, Lib.hid (Below.refl _ _)⟩
    case round =>
      clear HR0
      obtain ⟨k, rfl, hk, hV, hW⟩ := hrel
      obtain ⟨a0, a1, a2, a3, a4, a5, a6, a7⟩ := HD.out _ hW.out
      simp only [Nat.zero_add] at a0 a1 a2 a3 a4 a5 a6 a7
      by_cases hlt : k < evs.length
      · obtain ⟨b, off, rfl, hbl, hc⟩ := HEV.out _ hW.out (by rintro rfl; simp at hlt)
        obtain ⟨e0, e1, e2, e3⟩ := hc k _ (List.getElem?_eq_getElem hlt)
        have hst : Hid ((evs.drop k).all (evB th) = (evB th evs[k] && (evs.drop (k + 1)).all (evB th))) := Lib.hid (by rw [List.drop_eq_getElem_cons hlt, List.all_cons])
        have HS := Lib.hid (fun W h => rfS_of (W := W) (Nat.lt_of_lt_of_le hbl (Nat.le_trans hB (Nat.le_trans HB0.out.size hW.out.size))) (HD.out _ hW.out) e0 e1 e2 e3 (Nat.lt_of_lt_of_le HXL.out hW.out.size) h)
        have HWW := Lib.hid (fun W (h : Below wr.heap.size wr W) => hW.out.trans (h.mono hW.out.size))
        have q1 : (k : Int) < (evs.length : Int) := by omega
        have q2 : (0 : Int) ≤ (k : Int) := Int.natCast_nonneg _
        have hHB := Lib.hid (HB0.out.size)
        clear hc
        generalize evs[k] = ev at *
        obtain ⟨eth, ekd, ea, eb⟩ := ev
        dsimp only at *
        cases hev : evB th ⟨eth, ekd, ea, eb⟩
        · have hF : Hid (R = false) := Lib.hid (by rw [hV.out, hst.out, hev]; rfl)
          clear hV hst hW
          go_wp2_with fail
          refine wp_region_L (l := 7) (S := (RfS wr X th 0 bg (-1) ck 0 false (.slice (some ⟨b, off, none⟩) evs.length dc) b (off + k * 4) eth ekd ea eb)) (by kernel_rfl) ?_ (fun hHeld => ?_)
          · ((try dsimp only); (exact HS.out _ (Below.refl _ _).drew))
          refine wpAnyL_take (i := 0) (oi := _) (v := ?v1) rfl (by kernel_rfl) (fun _ _ _ h => h) (by assumption) (Or.inl ⟨by kernel_rfl, ?y1⟩) ?r1
          case y1 => (intro w hSw; (try dsimp only at hSw); go_simp; all_goals with_reducible rfl)
          try simp only [Act.put, List.setIfInBounds_toArray, List.set_cons_zero, List.set_cons_succ]
          refine wpAnyL_take (i := 1) (oi := _) (v := ?v2) rfl (by kernel_rfl) (fun _ _ _ h => h) (by assumption) (Or.inl ⟨by kernel_rfl, ?y2⟩) ?r2
          case y2 => (intro w hSw; (try dsimp only at hSw); go_simp; all_goals with_reducible rfl)
          try simp only [Act.put, List.setIfInBounds_toArray, List.set_cons_zero, List.set_cons_succ]
          refine wpAnyL_take (i := 2) (oi := _) (v := ?v3) rfl (by kernel_rfl) (fun _ _ _ h => h) (by assumption) (Or.inl ⟨by kernel_rfl, ?y3⟩) ?r3
          case y3 => (intro w hSw; (try dsimp only at hSw); go_simp; all_goals with_reducible rfl)
          try simp only [Act.put, List.setIfInBounds_toArray, List.set_cons_zero, List.set_cons_succ]
          refine wpAnyL_take (i := 3) (oi := _) (v := ?v4) rfl (by kernel_rfl) (fun _ _ _ h => h) (by assumption) (Or.inl ⟨by kernel_rfl, ?y4⟩) ?r4
          case y4 => (intro w hSw; (try dsimp only at hSw); go_simp; all_goals with_reducible rfl)
          try simp only [Act.put, List.setIfInBounds_toArray, List.set_cons_zero, List.set_cons_succ]
          refine wpAnyL_take (i := 4) (oi := _) (v := ?v5) rfl (by kernel_rfl) (fun _ _ _ h => h) (by assumption) (Or.inl ⟨by kernel_rfl, ?y5⟩) ?r5
          case y5 => (intro w hSw; (try dsimp only at hSw); go_simp; all_goals with_reducible rfl)
          try simp only [Act.put, List.setIfInBounds_toArray, List.set_cons_zero, List.set_cons_succ]
          refine wpAnyL_take (i := 5) (oi := _) (v := ?v6) rfl (by kernel_rfl) (fun _ _ _ h => h) (by assumption) (Or.inl ⟨by kernel_rfl, ?y6⟩) ?r6
          case y6 => (intro w hSw; (try dsimp only at hSw); go_simp; all_goals with_reducible rfl)
          try simp only [Act.put, List.setIfInBounds_toArray, List.set_cons_zero, List.set_cons_succ]
          refine wpAnyL_step (j := 6) (o := _) (by kernel_rfl) rfl (fun K hK => ?_)
          (go_simp; go_at_call 202; refine (rfEvent_any _ _ _ _ _ _ _ _ _ _ _ _ _).mono ?_; rintro e w4 ⟨rfl, hb4⟩; rw [hev])
          refine hK _ _ ?_ (fun hHeld => ?_)
          · ((try dsimp only); (exact HS.out _ (hHeld.1.trans (hb4.mono hHeld.1.size))))
          clear hK K
          try simp only [Act.put, List.setIfInBounds_toArray, List.set_cons_zero, List.set_cons_succ]
          refine wpAnyL_last (j := 7) (o := _) (by kernel_rfl) rfl (by rfl) (by kernel_rfl) (fun K hK => ?_)
          go_simp
          (refine hK _ _ ?_; clear hK K)
          try simp only [Act.put, List.setIfInBounds_toArray, List.set_cons_zero, List.set_cons_succ]
          have hE := Lib.hid (HB0.out.trans ((HWW.out _ hHeld.1).mono HB0.out.size))
          clear hHeld
          go_wp2_with fail
          go_ret
          exact ⟨by first | (rw [hF.out]; done) | (rw [hF.out]; rfl), hE.out⟩
        · have hF : Hid (R = (evs.drop (k + 1)).all (evB th)) := Lib.hid (by rw [hV.out, hst.out, hev]; rfl)
          clear hV hst hW
          go_wp2_with fail
          refine wp_region_L (l := 7) (S := (RfS wr X th 0 bg (-1) ck 0 false (.slice (some ⟨b, off, none⟩) evs.length dc) b (off + k * 4) eth ekd ea eb)) (by kernel_rfl) ?_ (fun hHeld => ?_)
          · ((try dsimp only); (exact HS.out _ (Below.refl _ _).drew))
          refine wpAnyL_take (i := 0) (oi := _) (v := ?v9) rfl (by kernel_rfl) (fun _ _ _ h => h) (by assumption) (Or.inl ⟨by kernel_rfl, ?y9⟩) ?r9
          case y9 => (intro w hSw; (try dsimp only at hSw); go_simp; all_goals with_reducible rfl)
          try simp only [Act.put, List.setIfInBounds_toArray, List.set_cons_zero, List.set_cons_succ]
          refine wpAnyL_take (i := 1) (oi := _) (v := ?v10) rfl (by kernel_rfl) (fun _ _ _ h => h) (by assumption) (Or.inl ⟨by kernel_rfl, ?y10⟩) ?r10
          case y10 => (intro w hSw; (try dsimp only at hSw); go_simp; all_goals with_reducible rfl)
          try simp only [Act.put, List.setIfInBounds_toArray, List.set_cons_zero, List.set_cons_succ]
          refine wpAnyL_take (i := 2) (oi := _) (v := ?v11) rfl (by kernel_rfl) (fun _ _ _ h => h) (by assumption) (Or.inl ⟨by kernel_rfl, ?y11⟩) ?r11
          case y11 => (intro w hSw; (try dsimp only at hSw); go_simp; all_goals with_reducible rfl)
          try simp only [Act.put, List.setIfInBounds_toArray, List.set_cons_zero, List.set_cons_succ]
          refine wpAnyL_take (i := 3) (oi := _) (v := ?v12) rfl (by kernel_rfl) (fun _ _ _ h => h) (by assumption) (Or.inl ⟨by kernel_rfl, ?y12⟩) ?r12
          case y12 => (intro w hSw; (try dsimp only at hSw); go_simp; all_goals with_reducible rfl)
          try simp only [Act.put, List.setIfInBounds_toArray, List.set_cons_zero, List.set_cons_succ]
          refine wpAnyL_take (i := 4) (oi := _) (v := ?v13) rfl (by kernel_rfl) (fun _ _ _ h => h) (by assumption) (Or.inl ⟨by kernel_rfl, ?y13⟩) ?r13
          case y13 => (intro w hSw; (try dsimp only at hSw); go_simp; all_goals with_reducible rfl)
          try simp only [Act.put, List.setIfInBounds_toArray, List.set_cons_zero, List.set_cons_succ]
          refine wpAnyL_take (i := 5) (oi := _) (v := ?v14) rfl (by kernel_rfl) (fun _ _ _ h => h) (by assumption) (Or.inl ⟨by kernel_rfl, ?y14⟩) ?r14
          case y14 => (intro w hSw; (try dsimp only at hSw); go_simp; all_goals with_reducible rfl)
          try simp only [Act.put, List.setIfInBounds_toArray, List.set_cons_zero, List.set_cons_succ]
          refine wpAnyL_step (j := 6) (o := _) (by kernel_rfl) rfl (fun K hK => ?_)
          (go_simp; go_at_call 202; refine (rfEvent_any _ _ _ _ _ _ _ _ _ _ _ _ _).mono ?_; rintro e w4 ⟨rfl, hb4⟩; rw [hev])
          refine hK _ _ ?_ (fun hHeld => ?_)
          · ((try dsimp only); (exact HS.out _ (hHeld.1.trans (hb4.mono hHeld.1.size))))
          clear hK K
          try simp only [Act.put, List.setIfInBounds_toArray, List.set_cons_zero, List.set_cons_succ]
          refine wpAnyL_last (j := 7) (o := _) (by kernel_rfl) rfl (by rfl) (by kernel_rfl) (fun K hK => ?_)
          go_simp
          (refine hK _ _ ?_; clear hK K)
          try simp only [Act.put, List.setIfInBounds_toArray, List.set_cons_zero, List.set_cons_succ]
          have hE := Lib.hid (HWW.out _ hHeld.1)
          clear hHeld
          go_wp2_with fail
          go_roundw
          case rel => exact ⟨k + 1, by go_num, by omega, hF, hE⟩
          case measure => simp [intOf]; omega
      · have hkl : k = evs.length := by omega
        have hF : Hid (R = true) := Lib.hid (by rw [hV.out, List.drop_eq_nil_of_le (by omega)]; rfl)
        have hE := Lib.hid (HB0.out.trans (hW.out.mono HB0.out.size))
        clear hkl hV hW
        go_wp2_with fail
        go_ret
        exact ⟨by first | (rw [hF.out]; done) | (rw [hF.out]; rfl), hE.out⟩
  · have t6 : decide (kd = 0) = false := by simp; omega
    by_cases h7 : bg < en
    case neg =>
      have t8 : decide (en ≤ bg) = true := by simp; omega
      rw [show attB ⟨th, kd, bg, en, ck, pl, wt, dA, dc, evs⟩ = false from attB_false (by omega)]
      go_enter Tryz.func132, Tryz.ntmps132
      go_wp2_with fail
      go_ret
      exact ⟨rfl, (Below.refl _ _).alloc (Nat.le_refl _) _⟩
    have t8 : decide (en ≤ bg) = false := by simp; omega
    by_cases h9 : kd = 1
    · subst h9
      rw [attB_rest (by omega) (Or.inl rfl)]
      obtain ⟨R, hR⟩ : ∃ R, evs.all (evB th) = R := ⟨_, rfl⟩
      rw [hR]
      have HR0 : Hid (R = (evs.drop 0).all (evB th)) := Lib.hid hR.symm
      clear hR
      obtain ⟨X, hX⟩ : ∃ X, w.heap.size = X := ⟨_, rfl⟩
      obtain ⟨w0, hw0⟩ : ∃ w0, w.alloc (.cells #[.int .i64 th, .int .u8 1, .int .i64 bg, .int .i64 en, .int .i64 ck, .int .i64 pl, .bool wt, .slice dA evs.length dc] 74 (0, 0)) = w0 := ⟨_, rfl⟩
      have HB0 : Hid (Below w.heap.size w w0) := Lib.hid (by rw [← hw0]; exact (Below.refl _ _).alloc (Nat.le_refl _) _)
      have HX0 : Hid (AttAt w0 X 0 ⟨th, 1, bg, en, ck, pl, wt, dA, dc, evs⟩) := Lib.hid (by rw [← hw0, ← hX]; constructor <;> simp)
      have hXl : X < w0.heap.size := by rw [← hw0, ← hX]; simp
      have HA0 := Lib.hid (HA.out.keep (HB0.out.mono hB) (Nat.le_refl _))
      have HD := Lib.hid (fun W (h : Below w0.heap.size w0 W) => HX0.out.keep fun o' => h.cell (p := ⟨X, o', none⟩) hXl)
      have HEV := Lib.hid (fun W (h : Below w0.heap.size w0 W) => HA0.out.keep (h.mono (Nat.le_trans hB HB0.out.size)) (Nat.le_refl _))
      obtain ⟨a0, a1, a2, a3, a4, a5, a6, a7⟩ := HX0.out
      simp only [Nat.zero_add] at a0 a1 a2 a3 a4 a5 a6 a7
      have HXL := Lib.hid hXl
      clear HX0 HA0 hXl
      go_enter Tryz.func132, Tryz.ntmps132
      go_wp2_with fail
      clear hw0 hX a0 a1 a2 a3 a4 a5 a6 a7
      go_loopw [3] (fun i wr => ∃ k : Nat, i = .int .i64 k ∧ k ≤ evs.length ∧ Hid (R = (evs.drop k).all (evB th)) ∧ Hid (Below w0.heap.size w0 wr)) (fun i _ => evs.length - (intOf i).toNat)
      case atStart => exact ⟨0, rfl, Nat.zero_le _, HR0, Lib.hid (Below.refl _ _)⟩
      case round =>
        clear HR0
        obtain ⟨k, rfl, hk, hV, hW⟩ := hrel
        obtain ⟨a0, a1, a2, a3, a4, a5, a6, a7⟩ := HD.out _ hW.out
        simp only [Nat.zero_add] at a0 a1 a2 a3 a4 a5 a6 a7
        by_cases hlt : k < evs.length
        · obtain ⟨b, off, rfl, hbl, hc⟩ := HEV.out _ hW.out (by rintro rfl; simp at hlt)
          obtain ⟨e0, e1, e2, e3⟩ := hc k _ (List.getElem?_eq_getElem hlt)
          have hst : Hid ((evs.drop k).all (evB th) = (evB th evs[k] && (evs.drop (k + 1)).all (evB th))) := Lib.hid (by rw [List.drop_eq_getElem_cons hlt, List.all_cons])
          have HS := Lib.hid (fun W h => rfS_of (W := W) (Nat.lt_of_lt_of_le hbl (Nat.le_trans hB (Nat.le_trans HB0.out.size hW.out.size))) (HD.out _ hW.out) e0 e1 e2 e3 (Nat.lt_of_lt_of_le HXL.out hW.out.size) h)
          have HWW := Lib.hid (fun W (h : Below wr.heap.size wr W) => hW.out.trans (h.mono hW.out.size))
          have q1 : (k : Int) < (evs.length : Int) := by omega
          have q2 : (0 : Int) ≤ (k : Int) := Int.natCast_nonneg _
          have hHB := Lib.hid (HB0.out.size)
          clear hc
          generalize evs[k] = ev at *
          obtain ⟨eth, ekd, ea, eb⟩ := ev
          dsimp only at *
          cases hev : evB th ⟨eth, ekd, ea, eb⟩
          · have hF : Hid (R = false) := Lib.hid (by rw [hV.out, hst.out, hev]; rfl)
            clear hV hst hW
            go_wp2_with fail
            refine wp_region_L (l := 7) (S := (RfS wr X th 1 bg en ck pl wt (.slice (some ⟨b, off, none⟩) evs.length dc) b (off + k * 4) eth ekd ea eb)) (by kernel_rfl) ?_ (fun hHeld => ?_)
            · ((try dsimp only); (exact HS.out _ (Below.refl _ _).drew))
            refine wpAnyL_take (i := 0) (oi := _) (v := ?v17) rfl (by kernel_rfl) (fun _ _ _ h => h) (by assumption) (Or.inl ⟨by kernel_rfl, ?y17⟩) ?r17
            case y17 => (intro w hSw; (try dsimp only at hSw); go_simp; all_goals with_reducible rfl)
            try simp only [Act.put, List.setIfInBounds_toArray, List.set_cons_zero, List.set_cons_succ]
            refine wpAnyL_take (i := 1) (oi := _) (v := ?v18) rfl (by kernel_rfl) (fun _ _ _ h => h) (by assumption) (Or.inl ⟨by kernel_rfl, ?y18⟩) ?r18
            case y18 => (intro w hSw; (try dsimp only at hSw); go_simp; all_goals with_reducible rfl)
            try simp only [Act.put, List.setIfInBounds_toArray, List.set_cons_zero, List.set_cons_succ]
            refine wpAnyL_take (i := 2) (oi := _) (v := ?v19) rfl (by kernel_rfl) (fun _ _ _ h => h) (by assumption) (Or.inl ⟨by kernel_rfl, ?y19⟩) ?r19
            case y19 => (intro w hSw; (try dsimp only at hSw); go_simp; all_goals with_reducible rfl)
            try simp only [Act.put, List.setIfInBounds_toArray, List.set_cons_zero, List.set_cons_succ]
            refine wpAnyL_take (i := 3) (oi := _) (v := ?v20) rfl (by kernel_rfl) (fun _ _ _ h => h) (by assumption) (Or.inl ⟨by kernel_rfl, ?y20⟩) ?r20
            case y20 => (intro w hSw; (try dsimp only at hSw); go_simp; all_goals with_reducible rfl)
            try simp only [Act.put, List.setIfInBounds_toArray, List.set_cons_zero, List.set_cons_succ]
            refine wpAnyL_take (i := 4) (oi := _) (v := ?v21) rfl (by kernel_rfl) (fun _ _ _ h => h) (by assumption) (Or.inl ⟨by kernel_rfl, ?y21⟩) ?r21
            case y21 => (intro w hSw; (try dsimp only at hSw); go_simp; all_goals with_reducible rfl)
            try simp only [Act.put, List.setIfInBounds_toArray, List.set_cons_zero, List.set_cons_succ]
            refine wpAnyL_take (i := 5) (oi := _) (v := ?v22) rfl (by kernel_rfl) (fun _ _ _ h => h) (by assumption) (Or.inl ⟨by kernel_rfl, ?y22⟩) ?r22
            case y22 => (intro w hSw; (try dsimp only at hSw); go_simp; all_goals with_reducible rfl)
            try simp only [Act.put, List.setIfInBounds_toArray, List.set_cons_zero, List.set_cons_succ]
            refine wpAnyL_step (j := 6) (o := _) (by kernel_rfl) rfl (fun K hK => ?_)
            (go_simp; go_at_call 202; refine (rfEvent_any _ _ _ _ _ _ _ _ _ _ _ _ _).mono ?_; rintro e w4 ⟨rfl, hb4⟩; rw [hev])
            refine hK _ _ ?_ (fun hHeld => ?_)
            · ((try dsimp only); (exact HS.out _ (hHeld.1.trans (hb4.mono hHeld.1.size))))
            clear hK K
            try simp only [Act.put, List.setIfInBounds_toArray, List.set_cons_zero, List.set_cons_succ]
            refine wpAnyL_last (j := 7) (o := _) (by kernel_rfl) rfl (by rfl) (by kernel_rfl) (fun K hK => ?_)
            go_simp
            (refine hK _ _ ?_; clear hK K)
            try simp only [Act.put, List.setIfInBounds_toArray, List.set_cons_zero, List.set_cons_succ]
            have hE := Lib.hid (HB0.out.trans ((HWW.out _ hHeld.1).mono HB0.out.size))
            clear hHeld
            go_wp2_with fail
            go_ret
            exact ⟨by first | (rw [hF.out]; done) | (rw [hF.out]; rfl), hE.out⟩
          · have hF : Hid (R = (evs.drop (k + 1)).all (evB th)) := Lib.hid (by rw [hV.out, hst.out, hev]; rfl)
            clear hV hst hW
            go_wp2_with fail
            refine wp_region_L (l := 7) (S := (RfS wr X th 1 bg en ck pl wt (.slice (some ⟨b, off, none⟩) evs.length dc) b (off + k * 4) eth ekd ea eb)) (by kernel_rfl) ?_ (fun hHeld => ?_)
            · ((try dsimp only); (exact HS.out _ (Below.refl _ _).drew))
            refine wpAnyL_take (i := 0) (oi := _) (v := ?v25) rfl (by kernel_rfl) (fun _ _ _ h => h) (by assumption) (Or.inl ⟨by kernel_rfl, ?y25⟩) ?r25
            case y25 => (intro w hSw; (try dsimp only at hSw); go_simp; all_goals with_reducible rfl)
            try simp only [Act.put, List.setIfInBounds_toArray, List.set_cons_zero, List.set_cons_succ]
            refine wpAnyL_take (i := 1) (oi := _) (v := ?v26) rfl (by kernel_rfl) (fun _ _ _ h => h) (by assumption) (Or.inl ⟨by kernel_rfl, ?y26⟩) ?r26
            case y26 => (intro w hSw; (try dsimp only at hSw); go_simp; all_goals with_reducible rfl)
            try simp only [Act.put, List.setIfInBounds_toArray, List.set_cons_zero, List.set_cons_succ]
            refine wpAnyL_take (i := 2) (oi := _) (v := ?v27) rfl (by kernel_rfl) (fun _ _ _ h => h) (by assumption) (Or.inl ⟨by kernel_rfl, ?y27⟩) ?r27
            case y27 => (intro w hSw; (try dsimp only at hSw); go_simp; all_goals with_reducible rfl)
            try simp only [Act.put, List.setIfInBounds_toArray, List.set_cons_zero, List.set_cons_succ]
            refine wpAnyL_take (i := 3) (oi := _) (v := ?v28) rfl (by kernel_rfl) (fun _ _ _ h => h) (by assumption) (Or.inl ⟨by kernel_rfl, ?y28⟩) ?r28
            case y28 => (intro w hSw; (try dsimp only at hSw); go_simp; all_goals with_reducible rfl)
            try simp only [Act.put, List.setIfInBounds_toArray, List.set_cons_zero, List.set_cons_succ]
            refine wpAnyL_take (i := 4) (oi := _) (v := ?v29) rfl (by kernel_rfl) (fun _ _ _ h => h) (by assumption) (Or.inl ⟨by kernel_rfl, ?y29⟩) ?r29
            case y29 => (intro w hSw; (try dsimp only at hSw); go_simp; all_goals with_reducible rfl)
            try simp only [Act.put, List.setIfInBounds_toArray, List.set_cons_zero, List.set_cons_succ]
            refine wpAnyL_take (i := 5) (oi := _) (v := ?v30) rfl (by kernel_rfl) (fun _ _ _ h => h) (by assumption) (Or.inl ⟨by kernel_rfl, ?y30⟩) ?r30
            case y30 => (intro w hSw; (try dsimp only at hSw); go_simp; all_goals with_reducible rfl)
            try simp only [Act.put, List.setIfInBounds_toArray, List.set_cons_zero, List.set_cons_succ]
            refine wpAnyL_step (j := 6) (o := _) (by kernel_rfl) rfl (fun K hK => ?_)
            (go_simp; go_at_call 202; refine (rfEvent_any _ _ _ _ _ _ _ _ _ _ _ _ _).mono ?_; rintro e w4 ⟨rfl, hb4⟩; rw [hev])
            refine hK _ _ ?_ (fun hHeld => ?_)
            · ((try dsimp only); (exact HS.out _ (hHeld.1.trans (hb4.mono hHeld.1.size))))
            clear hK K
            try simp only [Act.put, List.setIfInBounds_toArray, List.set_cons_zero, List.set_cons_succ]
            refine wpAnyL_last (j := 7) (o := _) (by kernel_rfl) rfl (by rfl) (by kernel_rfl) (fun K hK => ?_)
            go_simp
            (refine hK _ _ ?_; clear hK K)
            try simp only [Act.put, List.setIfInBounds_toArray, List.set_cons_zero, List.set_cons_succ]
            have hE := Lib.hid (HWW.out _ hHeld.1)
            clear hHeld
            go_wp2_with fail
            go_roundw
            case rel => exact ⟨k + 1, by go_num, by omega, hF, hE⟩
            case measure => simp [intOf]; omega
        · have hkl : k = evs.length := by omega
          have hF : Hid (R = true) := Lib.hid (by rw [hV.out, List.drop_eq_nil_of_le (by omega)]; rfl)
          have hE := Lib.hid (HB0.out.trans (hW.out.mono HB0.out.size))
          clear hkl hV hW
          go_wp2_with fail
          go_ret
          exact ⟨by first | (rw [hF.out]; done) | (rw [hF.out]; rfl), hE.out⟩
    · have t7 : decide (kd = 1) = false := by simp; omega
      by_cases h8 : pl = 0
      case neg =>
        have t9 : decide (pl = 0) = false := by simp; omega
        rw [show attB ⟨th, kd, bg, en, ck, pl, wt, dA, dc, evs⟩ = false from attB_false (by omega)]
        go_enter Tryz.func132, Tryz.ntmps132
        go_wp2_with fail
        go_ret
        exact ⟨rfl, (Below.refl _ _).alloc (Nat.le_refl _) _⟩
      subst h8
      cases wt
      case true =>
        rw [show attB ⟨th, kd, bg, en, ck, 0, true, dA, dc, evs⟩ = false from attB_false (by simp; omega)]
        go_enter Tryz.func132, Tryz.ntmps132
        go_wp2_with fail
        go_ret
        exact ⟨rfl, (Below.refl _ _).alloc (Nat.le_refl _) _⟩
      rw [attB_rest (by omega) (Or.inr ⟨rfl, rfl⟩)]
      obtain ⟨R, hR⟩ : ∃ R, evs.all (evB th) = R := ⟨_, rfl⟩
      rw [hR]
      have HR0 : Hid (R = (evs.drop 0).all (evB th)) := Lib.hid hR.symm
      clear hR
      obtain ⟨X, hX⟩ : ∃ X, w.heap.size = X := ⟨_, rfl⟩
      obtain ⟨w0, hw0⟩ : ∃ w0, w.alloc (.cells #[.int .i64 th, .int .u8 kd, .int .i64 bg, .int .i64 en, .int .i64 ck, .int .i64 0, .bool false, .slice dA evs.length dc] 74 (0, 0)) = w0 := ⟨_, rfl⟩
      have HB0 : Hid (Below w.heap.size w w0) := Lib.hid (by rw [← hw0]; exact (Below.refl _ _).alloc (Nat.le_refl _) _)
      have HX0 : Hid (AttAt w0 X 0 ⟨th, kd, bg, en, ck, 0, false, dA, dc, evs⟩) := Lib.hid (by rw [← hw0, ← hX]; constructor <;> simp)
      have hXl : X < w0.heap.size := by rw [← hw0, ← hX]; simp
      have HA0 := Lib.hid (HA.out.keep (HB0.out.mono hB) (Nat.le_refl _))
      have HD := Lib.hid (fun W (h : Below w0.heap.size w0 W) => HX0.out.keep fun o' => h.cell (p := ⟨X, o', none⟩) hXl)
      have HEV := Lib.hid (fun W (h : Below w0.heap.size w0 W) => HA0.out.keep (h.mono (Nat.le_trans hB HB0.out.size)) (Nat.le_refl _))
      obtain ⟨a0, a1, a2, a3, a4, a5, a6, a7⟩ := HX0.out
      simp only [Nat.zero_add] at a0 a1 a2 a3 a4 a5 a6 a7
      have HXL := Lib.hid hXl
      clear HX0 HA0 hXl
      go_enter Tryz.func132, Tryz.ntmps132
      go_wp2_with fail
      clear hw0 hX a0 a1 a2 a3 a4 a5 a6 a7
      go_loopw [3] (fun i wr => ∃ k : Nat, i = .int .i64 k ∧ k ≤ evs.length ∧ Hid (R = (evs.drop k).all (evB th)) ∧ Hid (Below w0.heap.size w0 wr)) (fun i _ => evs.length - (intOf i).toNat)
      case atStart => exact ⟨0, rfl, Nat.zero_le _, HR0, Lib.hid (Below.refl _ _)⟩
      case round =>
        clear HR0
        obtain ⟨k, rfl, hk, hV, hW⟩ := hrel
        obtain ⟨a0, a1, a2, a3, a4, a5, a6, a7⟩ := HD.out _ hW.out
        simp only [Nat.zero_add] at a0 a1 a2 a3 a4 a5 a6 a7
        by_cases hlt : k < evs.length
        · obtain ⟨b, off, rfl, hbl, hc⟩ := HEV.out _ hW.out (by rintro rfl; simp at hlt)
          obtain ⟨e0, e1, e2, e3⟩ := hc k _ (List.getElem?_eq_getElem hlt)
          have hst : Hid ((evs.drop k).all (evB th) = (evB th evs[k] && (evs.drop (k + 1)).all (evB th))) := Lib.hid (by rw [List.drop_eq_getElem_cons hlt, List.all_cons])
          have HS := Lib.hid (fun W h => rfS_of (W := W) (Nat.lt_of_lt_of_le hbl (Nat.le_trans hB (Nat.le_trans HB0.out.size hW.out.size))) (HD.out _ hW.out) e0 e1 e2 e3 (Nat.lt_of_lt_of_le HXL.out hW.out.size) h)
          have HWW := Lib.hid (fun W (h : Below wr.heap.size wr W) => hW.out.trans (h.mono hW.out.size))
          have q1 : (k : Int) < (evs.length : Int) := by omega
          have q2 : (0 : Int) ≤ (k : Int) := Int.natCast_nonneg _
          have hHB := Lib.hid (HB0.out.size)
          clear hc
          generalize evs[k] = ev at *
          obtain ⟨eth, ekd, ea, eb⟩ := ev
          dsimp only at *
          cases hev : evB th ⟨eth, ekd, ea, eb⟩
          · have hF : Hid (R = false) := Lib.hid (by rw [hV.out, hst.out, hev]; rfl)
            clear hV hst hW
            go_wp2_with fail
            refine wp_region_L (l := 7) (S := (RfS wr X th kd bg en ck 0 false (.slice (some ⟨b, off, none⟩) evs.length dc) b (off + k * 4) eth ekd ea eb)) (by kernel_rfl) ?_ (fun hHeld => ?_)
            · ((try dsimp only); (exact HS.out _ (Below.refl _ _).drew))
            refine wpAnyL_take (i := 0) (oi := _) (v := ?v33) rfl (by kernel_rfl) (fun _ _ _ h => h) (by assumption) (Or.inl ⟨by kernel_rfl, ?y33⟩) ?r33
            case y33 => (intro w hSw; (try dsimp only at hSw); go_simp; all_goals with_reducible rfl)
            try simp only [Act.put, List.setIfInBounds_toArray, List.set_cons_zero, List.set_cons_succ]
            refine wpAnyL_take (i := 1) (oi := _) (v := ?v34) rfl (by kernel_rfl) (fun _ _ _ h => h) (by assumption) (Or.inl ⟨by kernel_rfl, ?y34⟩) ?r34
            case y34 => (intro w hSw; (try dsimp only at hSw); go_simp; all_goals with_reducible rfl)
            try simp only [Act.put, List.setIfInBounds_toArray, List.set_cons_zero, List.set_cons_succ]
            refine wpAnyL_take (i := 2) (oi := _) (v := ?v35) rfl (by kernel_rfl) (fun _ _ _ h => h) (by assumption) (Or.inl ⟨by kernel_rfl, ?y35⟩) ?r35
            case y35 => (intro w hSw; (try dsimp only at hSw); go_simp; all_goals with_reducible rfl)
            try simp only [Act.put, List.setIfInBounds_toArray, List.set_cons_zero, List.set_cons_succ]
            refine wpAnyL_take (i := 3) (oi := _) (v := ?v36) rfl (by kernel_rfl) (fun _ _ _ h => h) (by assumption) (Or.inl ⟨by kernel_rfl, ?y36⟩) ?r36
            case y36 => (intro w hSw; (try dsimp only at hSw); go_simp; all_goals with_reducible rfl)
            try simp only [Act.put, List.setIfInBounds_toArray, List.set_cons_zero, List.set_cons_succ]
            refine wpAnyL_take (i := 4) (oi := _) (v := ?v37) rfl (by kernel_rfl) (fun _ _ _ h => h) (by assumption) (Or.inl ⟨by kernel_rfl, ?y37⟩) ?r37
            case y37 => (intro w hSw; (try dsimp only at hSw); go_simp; all_goals with_reducible rfl)
            try simp only [Act.put, List.setIfInBounds_toArray, List.set_cons_zero, List.set_cons_succ]
            refine wpAnyL_take (i := 5) (oi := _) (v := ?v38) rfl (by kernel_rfl) (fun _ _ _ h => h) (by assumption) (Or.inl ⟨by kernel_rfl, ?y38⟩) ?r38
            case y38 => (intro w hSw; (try dsimp only at hSw); go_simp; all_goals with_reducible rfl)
            try simp only [Act.put, List.setIfInBounds_toArray, List.set_cons_zero, List.set_cons_succ]
            refine wpAnyL_step (j := 6) (o := _) (by kernel_rfl) rfl (fun K hK => ?_)
            (go_simp; go_at_call 202; refine (rfEvent_any _ _ _ _ _ _ _ _ _ _ _ _ _).mono ?_; rintro e w4 ⟨rfl, hb4⟩; rw [hev])
            refine hK _ _ ?_ (fun hHeld => ?_)
            · ((try dsimp only); (exact HS.out _ (hHeld.1.trans (hb4.mono hHeld.1.size))))
            clear hK K
            try simp only [Act.put, List.setIfInBounds_toArray, List.set_cons_zero, List.set_cons_succ]
            refine wpAnyL_last (j := 7) (o := _) (by kernel_rfl) rfl (by rfl) (by kernel_rfl) (fun K hK => ?_)
            go_simp
            (refine hK _ _ ?_; clear hK K)
            try simp only [Act.put, List.setIfInBounds_toArray, List.set_cons_zero, List.set_cons_succ]
            have hE := Lib.hid (HB0.out.trans ((HWW.out _ hHeld.1).mono HB0.out.size))
            clear hHeld
            go_wp2_with fail
            go_ret
            exact ⟨by first | (rw [hF.out]; done) | (rw [hF.out]; rfl), hE.out⟩
          · have hF : Hid (R = (evs.drop (k + 1)).all (evB th)) := Lib.hid (by rw [hV.out, hst.out, hev]; rfl)
            clear hV hst hW
            go_wp2_with fail
            refine wp_region_L (l := 7) (S := (RfS wr X th kd bg en ck 0 false (.slice (some ⟨b, off, none⟩) evs.length dc) b (off + k * 4) eth ekd ea eb)) (by kernel_rfl) ?_ (fun hHeld => ?_)
            · ((try dsimp only); (exact HS.out _ (Below.refl _ _).drew))
            refine wpAnyL_take (i := 0) (oi := _) (v := ?v41) rfl (by kernel_rfl) (fun _ _ _ h => h) (by assumption) (Or.inl ⟨by kernel_rfl, ?y41⟩) ?r41
            case y41 => (intro w hSw; (try dsimp only at hSw); go_simp; all_goals with_reducible rfl)
            try simp only [Act.put, List.setIfInBounds_toArray, List.set_cons_zero, List.set_cons_succ]
            refine wpAnyL_take (i := 1) (oi := _) (v := ?v42) rfl (by kernel_rfl) (fun _ _ _ h => h) (by assumption) (Or.inl ⟨by kernel_rfl, ?y42⟩) ?r42
            case y42 => (intro w hSw; (try dsimp only at hSw); go_simp; all_goals with_reducible rfl)
            try simp only [Act.put, List.setIfInBounds_toArray, List.set_cons_zero, List.set_cons_succ]
            refine wpAnyL_take (i := 2) (oi := _) (v := ?v43) rfl (by kernel_rfl) (fun _ _ _ h => h) (by assumption) (Or.inl ⟨by kernel_rfl, ?y43⟩) ?r43
            case y43 => (intro w hSw; (try dsimp only at hSw); go_simp; all_goals with_reducible rfl)
            try simp only [Act.put, List.setIfInBounds_toArray, List.set_cons_zero, List.set_cons_succ]
            refine wpAnyL_take (i := 3) (oi := _) (v := ?v44) rfl (by kernel_rfl) (fun _ _ _ h => h) (by assumption) (Or.inl ⟨by kernel_rfl, ?y44⟩) ?r44
            case y44 => (intro w hSw; (try dsimp only at hSw); go_simp; all_goals with_reducible rfl)
            try simp only [Act.put, List.setIfInBounds_toArray, List.set_cons_zero, List.set_cons_succ]
            refine wpAnyL_take (i := 4) (oi := _) (v := ?v45) rfl (by kernel_rfl) (fun _ _ _ h => h) (by assumption) (Or.inl ⟨by kernel_rfl, ?y45⟩) ?r45
            case y45 => (intro w hSw; (try dsimp only at hSw); go_simp; all_goals with_reducible rfl)
            try simp only [Act.put, List.setIfInBounds_toArray, List.set_cons_zero, List.set_cons_succ]
            refine wpAnyL_take (i := 5) (oi := _) (v := ?v46) rfl (by kernel_rfl) (fun _ _ _ h => h) (by assumption) (Or.inl ⟨by kernel_rfl, ?y46⟩) ?r46
            case y46 => (intro w hSw; (try dsimp only at hSw); go_simp; all_goals with_reducible rfl)
            try simp only [Act.put, List.setIfInBounds_toArray, List.set_cons_zero, List.set_cons_succ]
            refine wpAnyL_step (j := 6) (o := _) (by kernel_rfl) rfl (fun K hK => ?_)
            (go_simp; go_at_call 202; refine (rfEvent_any _ _ _ _ _ _ _ _ _ _ _ _ _).mono ?_; rintro e w4 ⟨rfl, hb4⟩; rw [hev])
            refine hK _ _ ?_ (fun hHeld => ?_)
            · ((try dsimp only); (exact HS.out _ (hHeld.1.trans (hb4.mono hHeld.1.size))))
            clear hK K
            try simp only [Act.put, List.setIfInBounds_toArray, List.set_cons_zero, List.set_cons_succ]
            refine wpAnyL_last (j := 7) (o := _) (by kernel_rfl) rfl (by rfl) (by kernel_rfl) (fun K hK => ?_)
            go_simp
            (refine hK _ _ ?_; clear hK K)
            try simp only [Act.put, List.setIfInBounds_toArray, List.set_cons_zero, List.set_cons_succ]
            have hE := Lib.hid (HWW.out _ hHeld.1)
            clear hHeld
            go_wp2_with fail
            go_roundw
            case rel => exact ⟨k + 1, by go_num, by omega, hF, hE⟩
            case measure => simp [intOf]; omega
        · have hkl : k = evs.length := by omega
          have hF : Hid (R = true) := Lib.hid (by rw [hV.out, List.drop_eq_nil_of_le (by omega)]; rfl)
          have hE := Lib.hid (HB0.out.trans (hW.out.mono HB0.out.size))
          clear hkl hV hW
          go_wp2_with fail
          go_ret
          exact ⟨by first | (rw [hF.out]; done) | (rw [hF.out]; rfl), hE.out⟩
end Go.Proofs.YtjaegddnikkibaaGreatDoor
namespace Go.Proofs.YtjaegddnikkibaaGreatDoor
open Go.RowKit Go.Sort

abbrev RmS (w0 : World) (b o : Nat) (th kd bg en ck pl : Int) (wt : Bool) (dA : Option Addr) (n dc : Nat) (pO : Nat) (pv : Int) (W : World) : Prop :=
  Below w0.heap.size w0 W ∧ W.cell? ⟨b, o, none⟩ = some (.int .i64 th) ∧ W.cell? ⟨b, o + 1, none⟩ = some (.int .u8 kd) ∧ W.cell? ⟨b, o + 2, none⟩ = some (.int .i64 bg) ∧ W.cell? ⟨b, o + 3, none⟩ = some (.int .i64 en) ∧ W.cell? ⟨b, o + 4, none⟩ = some (.int .i64 ck) ∧
    W.cell? ⟨b, o + 5, none⟩ = some (.int .i64 pl) ∧ W.cell? ⟨b, o + 6, none⟩ = some (.bool wt) ∧ W.cell? ⟨b, o + 7, none⟩ = some (.slice dA n dc) ∧ W.cell? ⟨b, pO, none⟩ = some (.int .i64 pv)
theorem rmS_of {w0 : World} {b o : Nat} {x : Att} {pO : Nat} {pv : Int} (h : AttAt w0 b o x) (hp : w0.cell? ⟨b, pO, none⟩ = some (.int .i64 pv)) (W : World) (hW : Below w0.heap.size w0 W) :
    RmS w0 b o x.th x.kd x.bg x.en x.ck x.pl x.wr x.dA x.evs.length x.dc pO pv W := by
  have hb := World.block_lt_of_cell? _ _ hp
  obtain ⟨a0, a1, a2, a3, a4, a5, a6, a7⟩ := h.keep fun o' => hW.cell (p := ⟨b, o', none⟩) hb
  exact ⟨hW, a0, a1, a2, a3, a4, a5, a6, a7, (hW.cell (p := ⟨b, pO, none⟩) hb).trans hp⟩

set_option maxHeartbeats 4000000 in
set_option maxRecDepth 100000 in
theorem rfMay_any (A : Option Addr) (c : Nat) (l : List Att) (hn : l.length ≤ 35184372088832) (hO : ∀ x ∈ l, x.Ok) (w : World) (ha : AttsAt w w.heap.size A l) :
    Calls Tryz.prog 34 #[.slice A l.length c] w fun e w' => e = .returned (.int .i64 (checkedV l)) ∧ Below w.heap.size w w' := by
  have H := Lib.hid (fun w' (h : Below w.heap.size w w') => ha.keep h (Nat.le_refl _))
  have HOK := Lib.hid hO
  clear ha hO
  go_enter Tryz.func34, Tryz.ntmps34
  go_wp2_with fail
  go_loopw [3, 4] (fun v i wr => ∃ (k : Nat) (left : Int), i = .int .i64 k ∧ v = .int .i64 left ∧ k ≤ l.length ∧ 0 ≤ left ∧ left ≤ 1048576 ∧ Hid (left = 1048576 - totalSize (l.take k)) ∧ Hid (Below w.heap.size w wr)) (fun _ i _ => l.length - (intOf i).toNat)
  case atStart => exact ⟨0, 1048576, rfl, rfl, by omega, by omega, by omega, Lib.hid (by simp [totalSize]), Lib.hid (Below.refl _ _)⟩
  case round =>
    obtain ⟨k, left, rfl, rfl, hk, h1, h2, h3, hW⟩ := hrel
    by_cases hlt : k < l.length
    · obtain ⟨b, off, rfl, _, hc⟩ := (H.out _ hW.out).row (by rintro rfl; simp at hlt)
      have hx := List.getElem?_eq_getElem hlt
      obtain ⟨c0, c1, c2, c3, c4, c5, c6, c7⟩ := hc k _ hx
      have hl := (HOK.out _ (List.getElem_mem hlt)).len
      have h4 := Lib.hid (totalSize_take l k hlt)
      clear hc hx
      generalize l[k] = x at *
      obtain ⟨th, kd, bg, en, ck, pl, wt, dA, dc, evs⟩ := x
      dsimp only at *
      generalize hm : evs.length = m at *
      have h5 : Hid (left - 1 - (m : Int) = 1048576 - (totalSize (l.take (k + 1)) : Int)) := Lib.hid (by have h6 := h4.out; have h7 := h3.out; omega)
      have q1 : (k : Int) < (l.length : Int) := by omega
      have q2 : (0 : Int) ≤ (k : Int) := Int.natCast_nonneg _
      have r1 : IntKind.i64.wrap (left - 1) = left - 1 := by rw [IntKind.wrap_i64]; omega
      have r2 : IntKind.i64.wrap (left - 1 - (m : Int)) = left - 1 - (m : Int) := by rw [IntKind.wrap_i64]; omega
      clear hm h4
      by_cases hneg : left - 1 - (m : Int) < 0
      · have F : Hid ((3 : Int) = checkedV l) := Lib.hid (by
          have h6 := h5.out
          have h7 := totalSize_take_le l (k + 1)
          unfold checkedV
          rw [if_pos (by omega)])
        have t1 : decide (left - 1 - (m : Int) < 0) = true := by simp; omega
        clear h3 h5
        go_wp2_with fail
        go_ret
        exact ⟨ret_int F.out, hW.out⟩
      · have t1 : decide (left - 1 - (m : Int) < 0) = false := by simp; omega
        clear h3
        go_wp2_with fail
        go_roundw
        case rel => exact ⟨k + 1, _, by go_num, rfl, by omega, by omega, by omega, h5, hW⟩
        case measure => simp [intOf]; omega
    · have h5 : Hid (¬ 1048576 < totalSize l) := Lib.hid (by
        have h6 := h3.out
        rw [List.take_of_length_le (by omega)] at h6
        omega)
      have h6 : Hid (checkedV l = if okFrom none l then 0 else 15) := Lib.hid (by unfold checkedV; rw [if_neg h5.out])
      clear h3 h5
      go_wp2_with fail
      obtain ⟨wo, rfl⟩ : ∃ wo : World, wo = wr := ⟨_, rfl⟩
      go_loopw [5] (fun i wr => ∃ (k : Nat), i = .int .i64 k ∧ k ≤ l.length ∧ Hid (okFrom none l = okFrom (prevB l k) (l.drop k)) ∧ Hid (Below w.heap.size w wr)) (fun i _ => l.length - (intOf i).toNat)
      case atStart => exact ⟨0, rfl, by omega, Lib.hid rfl, hW⟩
      case round =>
        clear hW
        obtain ⟨k, rfl, hk, h3, hW⟩ := hrel
        by_cases hlt : k < l.length
        · obtain ⟨b, off, rfl, hbl, hc⟩ := (H.out _ hW.out).row (by rintro rfl; simp at hlt)
          have hx := List.getElem?_eq_getElem hlt
          have HCX := Lib.hid (hc k _ hx)
          have HO := Lib.hid (HOK.out _ (List.getElem_mem hlt))
          have hl := HO.out.len
          have h4 := Lib.hid (okFrom_step hlt)
          have HEV := Lib.hid (fun W (h : Below w.heap.size w W) => (H.out W h).evs _ (List.getElem_mem hlt))
          have hbg : Hid (∀ j (h : j < l.length), j + 1 = k → wr.cell? ⟨b, off + j * 8 + 2, none⟩ = some (.int .i64 l[j].bg)) := Lib.hid (fun j h _ => (hc j _ (List.getElem?_eq_getElem h)).c2)
          clear hc hx
          generalize l[k] = x at *
          obtain ⟨th, kd, bg, en, ck, pl, wt, dA, dc, evs⟩ := x
          dsimp only at *
          have HW2 := Lib.hid (fun W (h : Below wr.heap.size wr W) => hW.out.trans (h.mono hW.out.size))
          have HE := Lib.hid (fun W h => HEV.out W (HW2.out W h))
          have HZ := Lib.hid (fun W h => (HW2.out W h).size)
          have hk9 : (0 : Int) ≤ (k : Int) := Int.natCast_nonneg _
          have q1 : (k : Int) < (l.length : Int) := by omega
          cases hat : attB ⟨th, kd, bg, en, ck, pl, wt, dA, dc, evs⟩
          · have F : Hid ((15 : Int) = checkedV l) := Lib.hid (by rw [h6.out, h3.out, h4.out, hat]; simp)
            have HS := Lib.hid (rmS_of HCX.out HCX.out.c2)
            have HAT := Lib.hid hat
            clear h3 h4 h6 hat
            go_wp2_with fail
            refine wp_region_L (l := 23) (S := (RmS wr b (off + k * 8) th kd bg en ck pl wt dA evs.length dc (off + k * 8 + 2) bg)) (by kernel_rfl) ?_ (fun hHeld => ?_)
            · ((try dsimp only); (exact HS.out _ (Below.refl _ _).drew))
            refine wpAnyL_take (i := 0) (oi := _) (v := ?v49) rfl (by kernel_rfl) (fun _ _ _ h => h) (by assumption) (Or.inl ⟨by kernel_rfl, ?y49⟩) ?r49
            case y49 => (intro w hSw; (try dsimp only at hSw); go_simp; all_goals with_reducible rfl)
            try simp only [Act.put, List.setIfInBounds_toArray, List.set_cons_zero, List.set_cons_succ]
            refine wpAnyL_take (i := 1) (oi := _) (v := ?v50) rfl (by kernel_rfl) (fun _ _ _ h => h) (by assumption) (Or.inl ⟨by kernel_rfl, ?y50⟩) ?r50
            case y50 => (intro w hSw; (try dsimp only at hSw); go_simp; all_goals with_reducible rfl)
            try simp only [Act.put, List.setIfInBounds_toArray, List.set_cons_zero, List.set_cons_succ]
            refine wpAnyL_take (i := 2) (oi := _) (v := ?v51) rfl (by kernel_rfl) (fun _ _ _ h => h) (by assumption) (Or.inl ⟨by kernel_rfl, ?y51⟩) ?r51
            case y51 => (intro w hSw; (try dsimp only at hSw); go_simp; all_goals with_reducible rfl)
            try simp only [Act.put, List.setIfInBounds_toArray, List.set_cons_zero, List.set_cons_succ]
            refine wpAnyL_take (i := 3) (oi := _) (v := ?v52) rfl (by kernel_rfl) (fun _ _ _ h => h) (by assumption) (Or.inl ⟨by kernel_rfl, ?y52⟩) ?r52
            case y52 => (intro w hSw; (try dsimp only at hSw); go_simp; all_goals with_reducible rfl)
            try simp only [Act.put, List.setIfInBounds_toArray, List.set_cons_zero, List.set_cons_succ]
            refine wpAnyL_step (j := 4) (o := _) (by kernel_rfl) rfl (fun K hK => ?_)
            (go_simp; go_at_call 132; refine (rfAttempt_any th kd bg en ck pl wt dA dc evs w.heap.size HO.out _ (HE.out _ hHeld.1) (HZ.out _ hHeld.1)).mono ?_; rintro e w1 ⟨rfl, hb1⟩; rw [HAT.out])
            refine hK _ _ ?_ (fun hHeld => ?_)
            · ((try dsimp only); (exact HS.out _ (hHeld.1.trans (hb1.mono hHeld.1.size))))
            clear hK K
            try simp only [Act.put, List.setIfInBounds_toArray, List.set_cons_zero, List.set_cons_succ]
            refine wpAnyL_take (i := 5) (oi := _) (v := ?v54) rfl (by kernel_rfl) (fun _ _ _ h => h) (by assumption) (Or.inl ⟨by kernel_rfl, ?y54⟩) ?r54
            case y54 => (intro w hSw; (try dsimp only at hSw); go_simp; all_goals with_reducible rfl)
            try simp only [Act.put, List.setIfInBounds_toArray, List.set_cons_zero, List.set_cons_succ]
            refine wpAnyL_take (i := 6) (oi := _) (v := ?v55) rfl (by kernel_rfl) (fun _ _ _ h => h) (by assumption) (Or.inl ⟨by kernel_rfl, ?y55⟩) ?r55
            case y55 => (intro w hSw; (try dsimp only at hSw); go_simp; all_goals with_reducible rfl)
            try simp only [Act.put, List.setIfInBounds_toArray, List.set_cons_zero, List.set_cons_succ]
            refine wpAnyL_take (i := 7) (oi := _) (v := undef) rfl (by kernel_rfl) (fun _ _ _ h => h) (by assumption) (Or.inr ⟨by kernel_rfl, rfl⟩) ?_
            try simp only [Act.put, List.setIfInBounds_toArray, List.set_cons_zero, List.set_cons_succ]
            refine wpAnyL_take (i := 8) (oi := _) (v := undef) rfl (by kernel_rfl) (fun _ _ _ h => h) (by assumption) (Or.inr ⟨by kernel_rfl, rfl⟩) ?_
            try simp only [Act.put, List.setIfInBounds_toArray, List.set_cons_zero, List.set_cons_succ]
            refine wpAnyL_take (i := 9) (oi := _) (v := undef) rfl (by kernel_rfl) (fun _ _ _ h => h) (by assumption) (Or.inr ⟨by kernel_rfl, rfl⟩) ?_
            try simp only [Act.put, List.setIfInBounds_toArray, List.set_cons_zero, List.set_cons_succ]
            refine wpAnyL_take (i := 10) (oi := _) (v := undef) rfl (by kernel_rfl) (fun _ _ _ h => h) (by assumption) (Or.inr ⟨by kernel_rfl, rfl⟩) ?_
            try simp only [Act.put, List.setIfInBounds_toArray, List.set_cons_zero, List.set_cons_succ]
            refine wpAnyL_take (i := 11) (oi := _) (v := undef) rfl (by kernel_rfl) (fun _ _ _ h => h) (by assumption) (Or.inr ⟨by kernel_rfl, rfl⟩) ?_
            try simp only [Act.put, List.setIfInBounds_toArray, List.set_cons_zero, List.set_cons_succ]
            refine wpAnyL_take (i := 12) (oi := _) (v := undef) rfl (by kernel_rfl) (fun _ _ _ h => h) (by assumption) (Or.inr ⟨by kernel_rfl, rfl⟩) ?_
            try simp only [Act.put, List.setIfInBounds_toArray, List.set_cons_zero, List.set_cons_succ]
            refine wpAnyL_take (i := 13) (oi := _) (v := undef) rfl (by kernel_rfl) (fun _ _ _ h => h) (by assumption) (Or.inr ⟨by kernel_rfl, rfl⟩) ?_
            try simp only [Act.put, List.setIfInBounds_toArray, List.set_cons_zero, List.set_cons_succ]
            refine wpAnyL_take (i := 14) (oi := _) (v := undef) rfl (by kernel_rfl) (fun _ _ _ h => h) (by assumption) (Or.inr ⟨by kernel_rfl, rfl⟩) ?_
            try simp only [Act.put, List.setIfInBounds_toArray, List.set_cons_zero, List.set_cons_succ]
            refine wpAnyL_take (i := 15) (oi := _) (v := undef) rfl (by kernel_rfl) (fun _ _ _ h => h) (by assumption) (Or.inr ⟨by kernel_rfl, rfl⟩) ?_
            try simp only [Act.put, List.setIfInBounds_toArray, List.set_cons_zero, List.set_cons_succ]
            refine wpAnyL_take (i := 16) (oi := _) (v := undef) rfl (by kernel_rfl) (fun _ _ _ h => h) (by assumption) (Or.inr ⟨by kernel_rfl, rfl⟩) ?_
            try simp only [Act.put, List.setIfInBounds_toArray, List.set_cons_zero, List.set_cons_succ]
            refine wpAnyL_take (i := 17) (oi := _) (v := undef) rfl (by kernel_rfl) (fun _ _ _ h => h) (by assumption) (Or.inr ⟨by kernel_rfl, rfl⟩) ?_
            try simp only [Act.put, List.setIfInBounds_toArray, List.set_cons_zero, List.set_cons_succ]
            refine wpAnyL_take (i := 18) (oi := _) (v := undef) rfl (by kernel_rfl) (fun _ _ _ h => h) (by assumption) (Or.inr ⟨by kernel_rfl, rfl⟩) ?_
            try simp only [Act.put, List.setIfInBounds_toArray, List.set_cons_zero, List.set_cons_succ]
            refine wpAnyL_take (i := 19) (oi := _) (v := undef) rfl (by kernel_rfl) (fun _ _ _ h => h) (by assumption) (Or.inr ⟨by kernel_rfl, rfl⟩) ?_
            try simp only [Act.put, List.setIfInBounds_toArray, List.set_cons_zero, List.set_cons_succ]
            refine wpAnyL_take (i := 20) (oi := _) (v := undef) rfl (by kernel_rfl) (fun _ _ _ h => h) (by assumption) (Or.inr ⟨by kernel_rfl, rfl⟩) ?_
            try simp only [Act.put, List.setIfInBounds_toArray, List.set_cons_zero, List.set_cons_succ]
            refine wpAnyL_take (i := 21) (oi := _) (v := undef) rfl (by kernel_rfl) (fun _ _ _ h => h) (by assumption) (Or.inr ⟨by kernel_rfl, rfl⟩) ?_
            try simp only [Act.put, List.setIfInBounds_toArray, List.set_cons_zero, List.set_cons_succ]
            refine wpAnyL_take (i := 22) (oi := _) (v := undef) rfl (by kernel_rfl) (fun _ _ _ h => h) (by assumption) (Or.inr ⟨by kernel_rfl, rfl⟩) ?_
            try simp only [Act.put, List.setIfInBounds_toArray, List.set_cons_zero, List.set_cons_succ]
            refine wpAnyL_last (j := 23) (o := _) (by kernel_rfl) rfl (by rfl) (by kernel_rfl) (fun K hK => ?_)
            go_simp
            (refine hK _ _ ?_; clear hK K)
            try simp only [Act.put, List.setIfInBounds_toArray, List.set_cons_zero, List.set_cons_succ]
            have HF := Lib.hid (HW2.out _ hHeld.1)
            clear hHeld
            go_wp2_with fail
            go_ret
            exact ⟨ret_int F.out, HF.out⟩
          · have HAT := Lib.hid hat
            by_cases hk0 : k = 0
            · have F : Hid (okFrom none l = okFrom (prevB l (k + 1)) (l.drop (k + 1))) := Lib.hid (by rw [h3.out, h4.out, hat, show prevB l k = none by rw [hk0]; rfl]; simp)
              have HS := Lib.hid (rmS_of HCX.out HCX.out.c2)
              have t1 : decide ((0 : Int) < (k : Int)) = false := by simp; omega
              have t1' : decide (0 < k) = false := by simp; omega
              clear h3 h4 hat hk0
              go_wp2_with fail
              refine wp_region_L (l := 23) (S := (RmS wr b (off + k * 8) th kd bg en ck pl wt dA evs.length dc (off + k * 8 + 2) bg)) (by kernel_rfl) ?_ (fun hHeld => ?_)
              · ((try dsimp only); (exact HS.out _ (Below.refl _ _).drew))
              refine wpAnyL_take (i := 0) (oi := _) (v := ?v73) rfl (by kernel_rfl) (fun _ _ _ h => h) (by assumption) (Or.inl ⟨by kernel_rfl, ?y73⟩) ?r73
              case y73 => (intro w hSw; (try dsimp only at hSw); go_simp; all_goals with_reducible rfl)
              try simp only [Act.put, List.setIfInBounds_toArray, List.set_cons_zero, List.set_cons_succ]
              refine wpAnyL_take (i := 1) (oi := _) (v := ?v74) rfl (by kernel_rfl) (fun _ _ _ h => h) (by assumption) (Or.inl ⟨by kernel_rfl, ?y74⟩) ?r74
              case y74 => (intro w hSw; (try dsimp only at hSw); go_simp; all_goals with_reducible rfl)
              try simp only [Act.put, List.setIfInBounds_toArray, List.set_cons_zero, List.set_cons_succ]
              refine wpAnyL_take (i := 2) (oi := _) (v := ?v75) rfl (by kernel_rfl) (fun _ _ _ h => h) (by assumption) (Or.inl ⟨by kernel_rfl, ?y75⟩) ?r75
              case y75 => (intro w hSw; (try dsimp only at hSw); go_simp; all_goals with_reducible rfl)
              try simp only [Act.put, List.setIfInBounds_toArray, List.set_cons_zero, List.set_cons_succ]
              refine wpAnyL_take (i := 3) (oi := _) (v := ?v76) rfl (by kernel_rfl) (fun _ _ _ h => h) (by assumption) (Or.inl ⟨by kernel_rfl, ?y76⟩) ?r76
              case y76 => (intro w hSw; (try dsimp only at hSw); go_simp; all_goals with_reducible rfl)
              try simp only [Act.put, List.setIfInBounds_toArray, List.set_cons_zero, List.set_cons_succ]
              refine wpAnyL_step (j := 4) (o := _) (by kernel_rfl) rfl (fun K hK => ?_)
              (go_simp; go_at_call 132; refine (rfAttempt_any th kd bg en ck pl wt dA dc evs w.heap.size HO.out _ (HE.out _ hHeld.1) (HZ.out _ hHeld.1)).mono ?_; rintro e w1 ⟨rfl, hb1⟩; rw [HAT.out])
              refine hK _ _ ?_ (fun hHeld => ?_)
              · ((try dsimp only); (exact HS.out _ (hHeld.1.trans (hb1.mono hHeld.1.size))))
              clear hK K
              try simp only [Act.put, List.setIfInBounds_toArray, List.set_cons_zero, List.set_cons_succ]
              refine wpAnyL_take (i := 5) (oi := _) (v := ?v78) rfl (by kernel_rfl) (fun _ _ _ h => h) (by assumption) (Or.inl ⟨by kernel_rfl, ?y78⟩) ?r78
              case y78 => (intro w hSw; (try dsimp only at hSw); go_simp; all_goals with_reducible rfl)
              try simp only [Act.put, List.setIfInBounds_toArray, List.set_cons_zero, List.set_cons_succ]
              refine wpAnyL_take (i := 6) (oi := _) (v := ?v79) rfl (by kernel_rfl) (fun _ _ _ h => h) (by assumption) (Or.inl ⟨by kernel_rfl, ?y79⟩) ?r79
              case y79 => (intro w hSw; (try dsimp only at hSw); go_simp; all_goals with_reducible rfl)
              try simp only [Act.put, List.setIfInBounds_toArray, List.set_cons_zero, List.set_cons_succ]
              refine wpAnyL_take (i := 7) (oi := _) (v := ?v80) rfl (by kernel_rfl) (fun _ _ _ h => h) (by assumption) (Or.inl ⟨by kernel_rfl, ?y80⟩) ?r80
              case y80 => (intro w hSw; (try dsimp only at hSw); go_simp; all_goals with_reducible rfl)
              try simp only [Act.put, List.setIfInBounds_toArray, List.set_cons_zero, List.set_cons_succ]
              refine wpAnyL_take (i := 8) (oi := _) (v := ?v81) rfl (by kernel_rfl) (fun _ _ _ h => h) (by assumption) (Or.inl ⟨by kernel_rfl, ?y81⟩) ?r81
              case y81 => (intro w hSw; (try dsimp only at hSw); go_simp; all_goals with_reducible rfl)
              try simp only [Act.put, List.setIfInBounds_toArray, List.set_cons_zero, List.set_cons_succ]
              refine wpAnyL_take (i := 9) (oi := _) (v := ?v82) rfl (by kernel_rfl) (fun _ _ _ h => h) (by assumption) (Or.inl ⟨by kernel_rfl, ?y82⟩) ?r82
              case y82 => (intro w hSw; (try dsimp only at hSw); go_simp; all_goals with_reducible rfl)
              try simp only [Act.put, List.setIfInBounds_toArray, List.set_cons_zero, List.set_cons_succ]
              refine wpAnyL_take (i := 10) (oi := _) (v := undef) rfl (by kernel_rfl) (fun _ _ _ h => h) (by assumption) (Or.inr ⟨by kernel_rfl, rfl⟩) ?_
              try simp only [Act.put, List.setIfInBounds_toArray, List.set_cons_zero, List.set_cons_succ]
              refine wpAnyL_take (i := 11) (oi := _) (v := undef) rfl (by kernel_rfl) (fun _ _ _ h => h) (by assumption) (Or.inr ⟨by kernel_rfl, rfl⟩) ?_
              try simp only [Act.put, List.setIfInBounds_toArray, List.set_cons_zero, List.set_cons_succ]
              refine wpAnyL_take (i := 12) (oi := _) (v := undef) rfl (by kernel_rfl) (fun _ _ _ h => h) (by assumption) (Or.inr ⟨by kernel_rfl, rfl⟩) ?_
              try simp only [Act.put, List.setIfInBounds_toArray, List.set_cons_zero, List.set_cons_succ]
              refine wpAnyL_take (i := 13) (oi := _) (v := undef) rfl (by kernel_rfl) (fun _ _ _ h => h) (by assumption) (Or.inr ⟨by kernel_rfl, rfl⟩) ?_
              try simp only [Act.put, List.setIfInBounds_toArray, List.set_cons_zero, List.set_cons_succ]
              refine wpAnyL_take (i := 14) (oi := _) (v := undef) rfl (by kernel_rfl) (fun _ _ _ h => h) (by assumption) (Or.inr ⟨by kernel_rfl, rfl⟩) ?_
              try simp only [Act.put, List.setIfInBounds_toArray, List.set_cons_zero, List.set_cons_succ]
              refine wpAnyL_take (i := 15) (oi := _) (v := undef) rfl (by kernel_rfl) (fun _ _ _ h => h) (by assumption) (Or.inr ⟨by kernel_rfl, rfl⟩) ?_
              try simp only [Act.put, List.setIfInBounds_toArray, List.set_cons_zero, List.set_cons_succ]
              refine wpAnyL_take (i := 16) (oi := _) (v := undef) rfl (by kernel_rfl) (fun _ _ _ h => h) (by assumption) (Or.inr ⟨by kernel_rfl, rfl⟩) ?_
              try simp only [Act.put, List.setIfInBounds_toArray, List.set_cons_zero, List.set_cons_succ]
              refine wpAnyL_take (i := 17) (oi := _) (v := undef) rfl (by kernel_rfl) (fun _ _ _ h => h) (by assumption) (Or.inr ⟨by kernel_rfl, rfl⟩) ?_
              try simp only [Act.put, List.setIfInBounds_toArray, List.set_cons_zero, List.set_cons_succ]
              refine wpAnyL_take (i := 18) (oi := _) (v := undef) rfl (by kernel_rfl) (fun _ _ _ h => h) (by assumption) (Or.inr ⟨by kernel_rfl, rfl⟩) ?_
              try simp only [Act.put, List.setIfInBounds_toArray, List.set_cons_zero, List.set_cons_succ]
              refine wpAnyL_take (i := 19) (oi := _) (v := undef) rfl (by kernel_rfl) (fun _ _ _ h => h) (by assumption) (Or.inr ⟨by kernel_rfl, rfl⟩) ?_
              try simp only [Act.put, List.setIfInBounds_toArray, List.set_cons_zero, List.set_cons_succ]
              refine wpAnyL_take (i := 20) (oi := _) (v := undef) rfl (by kernel_rfl) (fun _ _ _ h => h) (by assumption) (Or.inr ⟨by kernel_rfl, rfl⟩) ?_
              try simp only [Act.put, List.setIfInBounds_toArray, List.set_cons_zero, List.set_cons_succ]
              refine wpAnyL_take (i := 21) (oi := _) (v := undef) rfl (by kernel_rfl) (fun _ _ _ h => h) (by assumption) (Or.inr ⟨by kernel_rfl, rfl⟩) ?_
              try simp only [Act.put, List.setIfInBounds_toArray, List.set_cons_zero, List.set_cons_succ]
              refine wpAnyL_take (i := 22) (oi := _) (v := ?v95) rfl (by kernel_rfl) (fun _ _ _ h => h) (by assumption) (Or.inl ⟨by kernel_rfl, ?y95⟩) ?r95
              case y95 => (intro w hSw; (try dsimp only at hSw); go_simp; all_goals with_reducible rfl)
              try simp only [Act.put, List.setIfInBounds_toArray, List.set_cons_zero, List.set_cons_succ]
              refine wpAnyL_last (j := 23) (o := _) (by kernel_rfl) rfl (by rfl) (by kernel_rfl) (fun K hK => ?_)
              go_simp
              (refine hK _ _ ?_; clear hK K)
              try simp only [Act.put, List.setIfInBounds_toArray, List.set_cons_zero, List.set_cons_succ]
              have HF := Lib.hid (HW2.out _ hHeld.1)
              clear hHeld
              go_wp2_with fail
              go_roundw
              case rel => exact ⟨k + 1, by go_num, by omega, F, HF⟩
              case measure => simp [intOf]; omega
            · obtain ⟨q, hq⟩ : ∃ q, q + 1 = k := ⟨k - 1, by omega⟩
              have hql : q < l.length := by omega
              have HP := hbg.out q hql hq
              have HPV : Hid (prevB l k = some l[q].bg) := Lib.hid (by rw [← hq]; simp [prevB, hql])
              generalize l[q].bg = pv at *
              have HS := Lib.hid (rmS_of HCX.out HP)
              have t1 : decide ((0 : Int) < (k : Int)) = true := by simp; omega
              have t1' : decide (0 < k) = true := by simp; omega
              have t1b : 0 < k := by omega
              have q1 : (k : Int) - 1 = (q : Int) := by omega
              have q2 : (q : Int) < (l.length : Int) := by omega
              have q3 : IntKind.i64.wrap (q : Int) = (q : Int) := by rw [IntKind.wrap_i64]; omega
              have hkl : k < l.length := hlt
              clear HP hq
              by_cases hpv : pv < bg
              · have F : Hid (okFrom none l = okFrom (prevB l (k + 1)) (l.drop (k + 1))) := Lib.hid (by rw [h3.out, h4.out, hat, HPV.out]; simp [hpv])
                have t2 : decide (bg ≤ pv) = false := by simp; omega
                clear h3 h4 hat
                go_wp2_with fail
                refine wp_region_L (l := 23) (S := (RmS wr b (off + k * 8) th kd bg en ck pl wt dA evs.length dc (off + q * 8 + 2) pv)) (by kernel_rfl) ?_ (fun hHeld => ?_)
                · ((try dsimp only); (exact HS.out _ (Below.refl _ _).drew))
                refine wpAnyL_take (i := 0) (oi := _) (v := ?v97) rfl (by kernel_rfl) (fun _ _ _ h => h) (by assumption) (Or.inl ⟨by kernel_rfl, ?y97⟩) ?r97
                case y97 => (intro w hSw; (try dsimp only at hSw); go_simp; all_goals with_reducible rfl)
                try simp only [Act.put, List.setIfInBounds_toArray, List.set_cons_zero, List.set_cons_succ]
                refine wpAnyL_take (i := 1) (oi := _) (v := ?v98) rfl (by kernel_rfl) (fun _ _ _ h => h) (by assumption) (Or.inl ⟨by kernel_rfl, ?y98⟩) ?r98
                case y98 => (intro w hSw; (try dsimp only at hSw); go_simp; all_goals with_reducible rfl)
                try simp only [Act.put, List.setIfInBounds_toArray, List.set_cons_zero, List.set_cons_succ]
                refine wpAnyL_take (i := 2) (oi := _) (v := ?v99) rfl (by kernel_rfl) (fun _ _ _ h => h) (by assumption) (Or.inl ⟨by kernel_rfl, ?y99⟩) ?r99
                case y99 => (intro w hSw; (try dsimp only at hSw); go_simp; all_goals with_reducible rfl)
                try simp only [Act.put, List.setIfInBounds_toArray, List.set_cons_zero, List.set_cons_succ]
                refine wpAnyL_take (i := 3) (oi := _) (v := ?v100) rfl (by kernel_rfl) (fun _ _ _ h => h) (by assumption) (Or.inl ⟨by kernel_rfl, ?y100⟩) ?r100
                case y100 => (intro w hSw; (try dsimp only at hSw); go_simp; all_goals with_reducible rfl)
                try simp only [Act.put, List.setIfInBounds_toArray, List.set_cons_zero, List.set_cons_succ]
                refine wpAnyL_step (j := 4) (o := _) (by kernel_rfl) rfl (fun K hK => ?_)
                (go_simp; go_at_call 132; refine (rfAttempt_any th kd bg en ck pl wt dA dc evs w.heap.size HO.out _ (HE.out _ hHeld.1) (HZ.out _ hHeld.1)).mono ?_; rintro e w1 ⟨rfl, hb1⟩; rw [HAT.out])
                refine hK _ _ ?_ (fun hHeld => ?_)
                · ((try dsimp only); (exact HS.out _ (hHeld.1.trans (hb1.mono hHeld.1.size))))
                clear hK K
                try simp only [Act.put, List.setIfInBounds_toArray, List.set_cons_zero, List.set_cons_succ]
                refine wpAnyL_take (i := 5) (oi := _) (v := ?v102) rfl (by kernel_rfl) (fun _ _ _ h => h) (by assumption) (Or.inl ⟨by kernel_rfl, ?y102⟩) ?r102
                case y102 => (intro w hSw; (try dsimp only at hSw); go_simp; all_goals with_reducible rfl)
                try simp only [Act.put, List.setIfInBounds_toArray, List.set_cons_zero, List.set_cons_succ]
                refine wpAnyL_take (i := 6) (oi := _) (v := ?v103) rfl (by kernel_rfl) (fun _ _ _ h => h) (by assumption) (Or.inl ⟨by kernel_rfl, ?y103⟩) ?r103
                case y103 => (intro w hSw; (try dsimp only at hSw); go_simp; all_goals with_reducible rfl)
                try simp only [Act.put, List.setIfInBounds_toArray, List.set_cons_zero, List.set_cons_succ]
                refine wpAnyL_take (i := 7) (oi := _) (v := ?v104) rfl (by kernel_rfl) (fun _ _ _ h => h) (by assumption) (Or.inl ⟨by kernel_rfl, ?y104⟩) ?r104
                case y104 => (intro w hSw; (try dsimp only at hSw); go_simp; all_goals with_reducible rfl)
                try simp only [Act.put, List.setIfInBounds_toArray, List.set_cons_zero, List.set_cons_succ]
                refine wpAnyL_take (i := 8) (oi := _) (v := ?v105) rfl (by kernel_rfl) (fun _ _ _ h => h) (by assumption) (Or.inl ⟨by kernel_rfl, ?y105⟩) ?r105
                case y105 => (intro w hSw; (try dsimp only at hSw); go_simp; all_goals with_reducible rfl)
                try simp only [Act.put, List.setIfInBounds_toArray, List.set_cons_zero, List.set_cons_succ]
                refine wpAnyL_take (i := 9) (oi := _) (v := ?v106) rfl (by kernel_rfl) (fun _ _ _ h => h) (by assumption) (Or.inl ⟨by kernel_rfl, ?y106⟩) ?r106
                case y106 => (intro w hSw; (try dsimp only at hSw); go_simp; all_goals with_reducible rfl)
                try simp only [Act.put, List.setIfInBounds_toArray, List.set_cons_zero, List.set_cons_succ]
                refine wpAnyL_take (i := 10) (oi := _) (v := ?v107) rfl (by kernel_rfl) (fun _ _ _ h => h) (by assumption) (Or.inl ⟨by kernel_rfl, ?y107⟩) ?r107
                case y107 => (intro w hSw; (try dsimp only at hSw); go_simp; all_goals with_reducible rfl)
                try simp only [Act.put, List.setIfInBounds_toArray, List.set_cons_zero, List.set_cons_succ]
                refine wpAnyL_take (i := 11) (oi := _) (v := ?v108) rfl (by kernel_rfl) (fun _ _ _ h => h) (by assumption) (Or.inl ⟨by kernel_rfl, ?y108⟩) ?r108
                case y108 => (intro w hSw; (try dsimp only at hSw); go_simp; all_goals with_reducible rfl)
                try simp only [Act.put, List.setIfInBounds_toArray, List.set_cons_zero, List.set_cons_succ]
                refine wpAnyL_take (i := 12) (oi := _) (v := ?v109) rfl (by kernel_rfl) (fun _ _ _ h => h) (by assumption) (Or.inl ⟨by kernel_rfl, ?y109⟩) ?r109
                case y109 => (intro w hSw; (try dsimp only at hSw); go_simp; all_goals with_reducible rfl)
                try simp only [Act.put, List.setIfInBounds_toArray, List.set_cons_zero, List.set_cons_succ]
                refine wpAnyL_take (i := 13) (oi := _) (v := ?v110) rfl (by kernel_rfl) (fun _ _ _ h => h) (by assumption) (Or.inl ⟨by kernel_rfl, ?y110⟩) ?r110
                case y110 => (intro w hSw; (try dsimp only at hSw); go_simp; all_goals with_reducible rfl)
                try simp only [Act.put, List.setIfInBounds_toArray, List.set_cons_zero, List.set_cons_succ]
                refine wpAnyL_take (i := 14) (oi := _) (v := ?v111) rfl (by kernel_rfl) (fun _ _ _ h => h) (by assumption) (Or.inl ⟨by kernel_rfl, ?y111⟩) ?r111
                case y111 => (intro w hSw; (try dsimp only at hSw); go_simp; all_goals with_reducible rfl)
                try simp only [Act.put, List.setIfInBounds_toArray, List.set_cons_zero, List.set_cons_succ]
                refine wpAnyL_take (i := 15) (oi := _) (v := ?v112) rfl (by kernel_rfl) (fun _ _ _ h => h) (by assumption) (Or.inl ⟨by kernel_rfl, ?y112⟩) ?r112
                case y112 => (intro w hSw; (try dsimp only at hSw); go_simp; all_goals with_reducible rfl)
                try simp only [Act.put, List.setIfInBounds_toArray, List.set_cons_zero, List.set_cons_succ]
                refine wpAnyL_take (i := 16) (oi := _) (v := ?v113) rfl (by kernel_rfl) (fun _ _ _ h => h) (by assumption) (Or.inl ⟨by kernel_rfl, ?y113⟩) ?r113
                case y113 => (intro w hSw; (try dsimp only at hSw); go_simp; all_goals with_reducible rfl)
                try simp only [Act.put, List.setIfInBounds_toArray, List.set_cons_zero, List.set_cons_succ]
                refine wpAnyL_take (i := 17) (oi := _) (v := ?v114) rfl (by kernel_rfl) (fun _ _ _ h => h) (by assumption) (Or.inl ⟨by kernel_rfl, ?y114⟩) ?r114
                case y114 => (intro w hSw; (try dsimp only at hSw); go_simp; all_goals with_reducible rfl)
                try simp only [Act.put, List.setIfInBounds_toArray, List.set_cons_zero, List.set_cons_succ]
                refine wpAnyL_take (i := 18) (oi := _) (v := ?v115) rfl (by kernel_rfl) (fun _ _ _ h => h) (by assumption) (Or.inl ⟨by kernel_rfl, ?y115⟩) ?r115
                case y115 => (intro w hSw; (try dsimp only at hSw); go_simp; all_goals with_reducible rfl)
                try simp only [Act.put, List.setIfInBounds_toArray, List.set_cons_zero, List.set_cons_succ]
                refine wpAnyL_take (i := 19) (oi := _) (v := ?v116) rfl (by kernel_rfl) (fun _ _ _ h => h) (by assumption) (Or.inl ⟨by kernel_rfl, ?y116⟩) ?r116
                case y116 => (intro w hSw; (try dsimp only at hSw); go_simp; all_goals with_reducible rfl)
                try simp only [Act.put, List.setIfInBounds_toArray, List.set_cons_zero, List.set_cons_succ]
                refine wpAnyL_take (i := 20) (oi := _) (v := ?v117) rfl (by kernel_rfl) (fun _ _ _ h => h) (by assumption) (Or.inl ⟨by kernel_rfl, ?y117⟩) ?r117
                case y117 => (intro w hSw; (try dsimp only at hSw); go_simp; all_goals with_reducible rfl)
                try simp only [Act.put, List.setIfInBounds_toArray, List.set_cons_zero, List.set_cons_succ]
                refine wpAnyL_take (i := 21) (oi := _) (v := ?v118) rfl (by kernel_rfl) (fun _ _ _ h => h) (by assumption) (Or.inl ⟨by kernel_rfl, ?y118⟩) ?r118
                case y118 => (intro w hSw; (try dsimp only at hSw); go_simp; all_goals with_reducible rfl)
                try simp only [Act.put, List.setIfInBounds_toArray, List.set_cons_zero, List.set_cons_succ]
                refine wpAnyL_take (i := 22) (oi := _) (v := ?v119) rfl (by kernel_rfl) (fun _ _ _ h => h) (by assumption) (Or.inl ⟨by kernel_rfl, ?y119⟩) ?r119
                case y119 => (intro w hSw; (try dsimp only at hSw); go_simp; all_goals with_reducible rfl)
                try simp only [Act.put, List.setIfInBounds_toArray, List.set_cons_zero, List.set_cons_succ]
                refine wpAnyL_last (j := 23) (o := _) (by kernel_rfl) rfl (by rfl) (by kernel_rfl) (fun K hK => ?_)
                go_simp
                (refine hK _ _ ?_; clear hK K)
                try simp only [Act.put, List.setIfInBounds_toArray, List.set_cons_zero, List.set_cons_succ]
                have HF := Lib.hid (HW2.out _ hHeld.1)
                clear hHeld
                go_wp2_with fail
                go_roundw
                case rel => exact ⟨k + 1, by go_num, by omega, F, HF⟩
                case measure => simp [intOf]; omega
              · have F : Hid ((15 : Int) = checkedV l) := Lib.hid (by rw [h6.out, h3.out, h4.out, hat, HPV.out]; simp [hpv])
                have t2 : decide (bg ≤ pv) = true := by simp; omega
                clear h3 h4 h6 hat
                go_wp2_with fail
                refine wp_region_L (l := 23) (S := (RmS wr b (off + k * 8) th kd bg en ck pl wt dA evs.length dc (off + q * 8 + 2) pv)) (by kernel_rfl) ?_ (fun hHeld => ?_)
                · ((try dsimp only); (exact HS.out _ (Below.refl _ _).drew))
                refine wpAnyL_take (i := 0) (oi := _) (v := ?v121) rfl (by kernel_rfl) (fun _ _ _ h => h) (by assumption) (Or.inl ⟨by kernel_rfl, ?y121⟩) ?r121
                case y121 => (intro w hSw; (try dsimp only at hSw); go_simp; all_goals with_reducible rfl)
                try simp only [Act.put, List.setIfInBounds_toArray, List.set_cons_zero, List.set_cons_succ]
                refine wpAnyL_take (i := 1) (oi := _) (v := ?v122) rfl (by kernel_rfl) (fun _ _ _ h => h) (by assumption) (Or.inl ⟨by kernel_rfl, ?y122⟩) ?r122
                case y122 => (intro w hSw; (try dsimp only at hSw); go_simp; all_goals with_reducible rfl)
                try simp only [Act.put, List.setIfInBounds_toArray, List.set_cons_zero, List.set_cons_succ]
                refine wpAnyL_take (i := 2) (oi := _) (v := ?v123) rfl (by kernel_rfl) (fun _ _ _ h => h) (by assumption) (Or.inl ⟨by kernel_rfl, ?y123⟩) ?r123
                case y123 => (intro w hSw; (try dsimp only at hSw); go_simp; all_goals with_reducible rfl)
                try simp only [Act.put, List.setIfInBounds_toArray, List.set_cons_zero, List.set_cons_succ]
                refine wpAnyL_take (i := 3) (oi := _) (v := ?v124) rfl (by kernel_rfl) (fun _ _ _ h => h) (by assumption) (Or.inl ⟨by kernel_rfl, ?y124⟩) ?r124
                case y124 => (intro w hSw; (try dsimp only at hSw); go_simp; all_goals with_reducible rfl)
                try simp only [Act.put, List.setIfInBounds_toArray, List.set_cons_zero, List.set_cons_succ]
                refine wpAnyL_step (j := 4) (o := _) (by kernel_rfl) rfl (fun K hK => ?_)
                (go_simp; go_at_call 132; refine (rfAttempt_any th kd bg en ck pl wt dA dc evs w.heap.size HO.out _ (HE.out _ hHeld.1) (HZ.out _ hHeld.1)).mono ?_; rintro e w1 ⟨rfl, hb1⟩; rw [HAT.out])
                refine hK _ _ ?_ (fun hHeld => ?_)
                · ((try dsimp only); (exact HS.out _ (hHeld.1.trans (hb1.mono hHeld.1.size))))
                clear hK K
                try simp only [Act.put, List.setIfInBounds_toArray, List.set_cons_zero, List.set_cons_succ]
                refine wpAnyL_take (i := 5) (oi := _) (v := ?v126) rfl (by kernel_rfl) (fun _ _ _ h => h) (by assumption) (Or.inl ⟨by kernel_rfl, ?y126⟩) ?r126
                case y126 => (intro w hSw; (try dsimp only at hSw); go_simp; all_goals with_reducible rfl)
                try simp only [Act.put, List.setIfInBounds_toArray, List.set_cons_zero, List.set_cons_succ]
                refine wpAnyL_take (i := 6) (oi := _) (v := ?v127) rfl (by kernel_rfl) (fun _ _ _ h => h) (by assumption) (Or.inl ⟨by kernel_rfl, ?y127⟩) ?r127
                case y127 => (intro w hSw; (try dsimp only at hSw); go_simp; all_goals with_reducible rfl)
                try simp only [Act.put, List.setIfInBounds_toArray, List.set_cons_zero, List.set_cons_succ]
                refine wpAnyL_take (i := 7) (oi := _) (v := ?v128) rfl (by kernel_rfl) (fun _ _ _ h => h) (by assumption) (Or.inl ⟨by kernel_rfl, ?y128⟩) ?r128
                case y128 => (intro w hSw; (try dsimp only at hSw); go_simp; all_goals with_reducible rfl)
                try simp only [Act.put, List.setIfInBounds_toArray, List.set_cons_zero, List.set_cons_succ]
                refine wpAnyL_take (i := 8) (oi := _) (v := ?v129) rfl (by kernel_rfl) (fun _ _ _ h => h) (by assumption) (Or.inl ⟨by kernel_rfl, ?y129⟩) ?r129
                case y129 => (intro w hSw; (try dsimp only at hSw); go_simp; all_goals with_reducible rfl)
                try simp only [Act.put, List.setIfInBounds_toArray, List.set_cons_zero, List.set_cons_succ]
                refine wpAnyL_take (i := 9) (oi := _) (v := ?v130) rfl (by kernel_rfl) (fun _ _ _ h => h) (by assumption) (Or.inl ⟨by kernel_rfl, ?y130⟩) ?r130
                case y130 => (intro w hSw; (try dsimp only at hSw); go_simp; all_goals with_reducible rfl)
                try simp only [Act.put, List.setIfInBounds_toArray, List.set_cons_zero, List.set_cons_succ]
                refine wpAnyL_take (i := 10) (oi := _) (v := ?v131) rfl (by kernel_rfl) (fun _ _ _ h => h) (by assumption) (Or.inl ⟨by kernel_rfl, ?y131⟩) ?r131
                case y131 => (intro w hSw; (try dsimp only at hSw); go_simp; all_goals with_reducible rfl)
                try simp only [Act.put, List.setIfInBounds_toArray, List.set_cons_zero, List.set_cons_succ]
                refine wpAnyL_take (i := 11) (oi := _) (v := ?v132) rfl (by kernel_rfl) (fun _ _ _ h => h) (by assumption) (Or.inl ⟨by kernel_rfl, ?y132⟩) ?r132
                case y132 => (intro w hSw; (try dsimp only at hSw); go_simp; all_goals with_reducible rfl)
                try simp only [Act.put, List.setIfInBounds_toArray, List.set_cons_zero, List.set_cons_succ]
                refine wpAnyL_take (i := 12) (oi := _) (v := ?v133) rfl (by kernel_rfl) (fun _ _ _ h => h) (by assumption) (Or.inl ⟨by kernel_rfl, ?y133⟩) ?r133
                case y133 => (intro w hSw; (try dsimp only at hSw); go_simp; all_goals with_reducible rfl)
                try simp only [Act.put, List.setIfInBounds_toArray, List.set_cons_zero, List.set_cons_succ]
                refine wpAnyL_take (i := 13) (oi := _) (v := ?v134) rfl (by kernel_rfl) (fun _ _ _ h => h) (by assumption) (Or.inl ⟨by kernel_rfl, ?y134⟩) ?r134
                case y134 => (intro w hSw; (try dsimp only at hSw); go_simp; all_goals with_reducible rfl)
                try simp only [Act.put, List.setIfInBounds_toArray, List.set_cons_zero, List.set_cons_succ]
                refine wpAnyL_take (i := 14) (oi := _) (v := ?v135) rfl (by kernel_rfl) (fun _ _ _ h => h) (by assumption) (Or.inl ⟨by kernel_rfl, ?y135⟩) ?r135
                case y135 => (intro w hSw; (try dsimp only at hSw); go_simp; all_goals with_reducible rfl)
                try simp only [Act.put, List.setIfInBounds_toArray, List.set_cons_zero, List.set_cons_succ]
                refine wpAnyL_take (i := 15) (oi := _) (v := ?v136) rfl (by kernel_rfl) (fun _ _ _ h => h) (by assumption) (Or.inl ⟨by kernel_rfl, ?y136⟩) ?r136
                case y136 => (intro w hSw; (try dsimp only at hSw); go_simp; all_goals with_reducible rfl)
                try simp only [Act.put, List.setIfInBounds_toArray, List.set_cons_zero, List.set_cons_succ]
                refine wpAnyL_take (i := 16) (oi := _) (v := ?v137) rfl (by kernel_rfl) (fun _ _ _ h => h) (by assumption) (Or.inl ⟨by kernel_rfl, ?y137⟩) ?r137
                case y137 => (intro w hSw; (try dsimp only at hSw); go_simp; all_goals with_reducible rfl)
                try simp only [Act.put, List.setIfInBounds_toArray, List.set_cons_zero, List.set_cons_succ]
                refine wpAnyL_take (i := 17) (oi := _) (v := ?v138) rfl (by kernel_rfl) (fun _ _ _ h => h) (by assumption) (Or.inl ⟨by kernel_rfl, ?y138⟩) ?r138
                case y138 => (intro w hSw; (try dsimp only at hSw); go_simp; all_goals with_reducible rfl)
                try simp only [Act.put, List.setIfInBounds_toArray, List.set_cons_zero, List.set_cons_succ]
                refine wpAnyL_take (i := 18) (oi := _) (v := ?v139) rfl (by kernel_rfl) (fun _ _ _ h => h) (by assumption) (Or.inl ⟨by kernel_rfl, ?y139⟩) ?r139
                case y139 => (intro w hSw; (try dsimp only at hSw); go_simp; all_goals with_reducible rfl)
                try simp only [Act.put, List.setIfInBounds_toArray, List.set_cons_zero, List.set_cons_succ]
                refine wpAnyL_take (i := 19) (oi := _) (v := ?v140) rfl (by kernel_rfl) (fun _ _ _ h => h) (by assumption) (Or.inl ⟨by kernel_rfl, ?y140⟩) ?r140
                case y140 => (intro w hSw; (try dsimp only at hSw); go_simp; all_goals with_reducible rfl)
                try simp only [Act.put, List.setIfInBounds_toArray, List.set_cons_zero, List.set_cons_succ]
                refine wpAnyL_take (i := 20) (oi := _) (v := ?v141) rfl (by kernel_rfl) (fun _ _ _ h => h) (by assumption) (Or.inl ⟨by kernel_rfl, ?y141⟩) ?r141
                case y141 => (intro w hSw; (try dsimp only at hSw); go_simp; all_goals with_reducible rfl)
                try simp only [Act.put, List.setIfInBounds_toArray, List.set_cons_zero, List.set_cons_succ]
                refine wpAnyL_take (i := 21) (oi := _) (v := ?v142) rfl (by kernel_rfl) (fun _ _ _ h => h) (by assumption) (Or.inl ⟨by kernel_rfl, ?y142⟩) ?r142
                case y142 => (intro w hSw; (try dsimp only at hSw); go_simp; all_goals with_reducible rfl)
                try simp only [Act.put, List.setIfInBounds_toArray, List.set_cons_zero, List.set_cons_succ]
                refine wpAnyL_take (i := 22) (oi := _) (v := ?v143) rfl (by kernel_rfl) (fun _ _ _ h => h) (by assumption) (Or.inl ⟨by kernel_rfl, ?y143⟩) ?r143
                case y143 => (intro w hSw; (try dsimp only at hSw); go_simp; all_goals with_reducible rfl)
                try simp only [Act.put, List.setIfInBounds_toArray, List.set_cons_zero, List.set_cons_succ]
                refine wpAnyL_last (j := 23) (o := _) (by kernel_rfl) rfl (by rfl) (by kernel_rfl) (fun K hK => ?_)
                go_simp
                (refine hK _ _ ?_; clear hK K)
                try simp only [Act.put, List.setIfInBounds_toArray, List.set_cons_zero, List.set_cons_succ]
                have HF := Lib.hid (HW2.out _ hHeld.1)
                clear hHeld
                go_wp2_with fail
                go_ret
                exact ⟨ret_int F.out, HF.out⟩
        · have F : Hid (checkedV l = 0) := Lib.hid (by rw [h6.out, h3.out, List.drop_eq_nil_of_le (by omega)]; rfl)
          clear h3 h6
          go_wp2_with fail
          go_ret
          exact ⟨ret_int F.out.symm, hW.out⟩
end Go.Proofs.YtjaegddnikkibaaGreatDoor
