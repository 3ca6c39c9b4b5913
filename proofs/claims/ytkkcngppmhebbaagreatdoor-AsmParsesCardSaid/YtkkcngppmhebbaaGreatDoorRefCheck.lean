/-
  The document's Check of an instruction answers as the program's.
-/
import Derived.Test.YtkkcngppmhebbaaGreatDoorRef17
set_option linter.unusedVariables false
set_option linter.unusedSimpArgs false
namespace Go.Proofs.YtkkcngppmhebbaaGreatDoor
open Go.RowKit

theorem ret_i {a b : Int} (h : a = b) : Ending.returned (.int .i64 a) = .returned (.int .i64 b) := by rw [h]
set_option maxHeartbeats 8000000 in
set_option maxRecDepth 100000 in
theorem rcheck_any (k c a b d n : Int) (hc0 : 0 ≤ c) (hn : -9223372036854775808 ≤ n ∧ n ≤ 9223372036854775807) (w : World) :
    Calls Tryz.prog 117 #[.agg #[.int .u8 k, .int .u8 c, .int .u8 a, .int .u8 b, .int .u8 d, .int .i64 n]] w fun e w' => e = .returned (.int .i64 (okE ⟨k, c, a, b, d, n⟩)) ∧ Below w.heap.size w w' := by
  obtain ⟨X, hX⟩ : ∃ X, w.heap.size = X := ⟨_, rfl⟩
  obtain ⟨w0, hw0⟩ : ∃ w0, w.alloc (.cells #[.int .u8 k, .int .u8 c, .int .u8 a, .int .u8 b, .int .u8 d, .int .i64 n] 79 (0, 0)) = w0 := ⟨_, rfl⟩
  have HB0 : Hid (Below w.heap.size w w0) := Lib.hid (by rw [← hw0]; exact (Below.refl _ _).alloc (Nat.le_refl _) _)
  have HX0 : Hid (CmdAt w0 X 0 ⟨k, c, a, b, d, n⟩) := Lib.hid (by rw [← hw0, ← hX]; constructor <;> simp)
  have z0 := HX0.out.c0
  simp only [Nat.zero_add] at z0
  obtain ⟨V, hV⟩ : ∃ V, okE ⟨k, c, a, b, d, n⟩ = V := ⟨_, rfl⟩
  have HN0 : Hid (okV ⟨k, c, a, b, d, n⟩ = false → (1 : Int) = V) := Lib.hid fun h => (end_no h).trans hV
  have HY0 : Hid (okV ⟨k, c, a, b, d, n⟩ = true → (0 : Int) = V) := Lib.hid fun h => (end_yes h).trans hV
  rw [hV]
  clear hV
  cases hf : formV k with
  | none =>
    have CF := Lib.hid (rfields_none k hf)
    have HF := Lib.hid (HN0.out (by unfold okV; dsimp only; rw [hf]))
    clear hf HN0 HY0
    go_enter Tryz.func117, Tryz.ntmps117
    go_wp2_with fail
    refine (CF.out _).mono ?_
    rintro e w1 ⟨rfl, hb1⟩
    have HB1 : Hid (Below w.heap.size w w1) := Lib.hid (HB0.out.trans (hb1.mono HB0.out.size))
    clear hb1 CF HX0 hw0 z0 hX
    go_wp2_with fail
    go_ret
    exact ⟨end_i64 HF.out, HB1.out.alloc HB1.out.size _⟩
  | some f =>
    have CF := Lib.hid (rfields_some k f hf)
    have HV := Lib.hid (okV_of (c := c) (a := a) (b := b) (d := d) (n := n) hf)
    have CN := Lib.hid (fun h W => rnumber_any k n f hf h hn W)
    have hr3 := formV_regs hf
    obtain ⟨cal, r, num, lo, hi, jump⟩ := f
    dsimp only at CF HV hr3 CN
    obtain ⟨R, hR⟩ : ∃ R : Int, (r : Int) = R := ⟨_, rfl⟩
    rw [hR] at CF
    clear hf
    go_enter Tryz.func117, Tryz.ntmps117
    go_wp2_with fail
    refine (CF.out _).mono ?_
    rintro e w1 ⟨rfl, hb1⟩
    obtain ⟨Y, hY⟩ : ∃ Y, w1.heap.size = Y := ⟨_, rfl⟩
    obtain ⟨w2, hw2⟩ : ∃ w2, w1.alloc (.cells #[.bool cal, .int .i64 R, .bool num] 117 (0, 0)) = w2 := ⟨_, rfl⟩
    obtain ⟨Z, hZ⟩ : ∃ Z, w2.heap.size = Z := ⟨_, rfl⟩
    obtain ⟨w3, hw3⟩ : ∃ w3, w2.alloc (.cells #[.int .u8 a, .int .u8 b, .int .u8 d] 5 (0, 0)) = w3 := ⟨_, rfl⟩
    have hb12 : Below w1.heap.size w1 w2 := by rw [← hw2]; exact (Below.refl _ _).alloc (Nat.le_refl _) _
    have hb23 : Below w2.heap.size w2 w3 := by rw [← hw3]; exact (Below.refl _ _).alloc (Nat.le_refl _) _
    have hXl : X < w1.heap.size := Nat.lt_of_lt_of_le HX0.out.lt hb1.size
    have HX2 := Lib.hid ((HX0.out.mono hb1 HX0.out.lt).mono hb12 hXl)
    have HX := Lib.hid (HX2.out.mono hb23 HX2.out.lt)
    have HB2 : Hid (Below w.heap.size w w2) := Lib.hid ((HB0.out.trans (hb1.mono HB0.out.size)).trans (hb12.mono (Nat.le_trans HB0.out.size hb1.size)))
    have HB3 : Hid (Below w.heap.size w w3) := Lib.hid (HB2.out.trans (hb23.mono HB2.out.size))
    have f2 : w2.heap[Y]? = some (.cells #[.bool cal, .int .i64 R, .bool num] 117 (0, 0)) := by rw [← hw2, ← hY]; exact heap_alloc_new w1 _
    have f3 := blk_below f2 hb23
    have r3 : w3.heap[Z]? = some (.cells #[.int .u8 a, .int .u8 b, .int .u8 d] 5 (0, 0)) := by rw [← hw3, ← hZ]; exact heap_alloc_new w2 _
    have v2 := HX2.out.c2
    have v3 := HX2.out.c3
    have v4 := HX2.out.c4
    have x0 := HX.out.c0
    have x1 := HX.out.c1
    have x5 := HX.out.c5
    have y0 := cell_of f3 0
    have y1 := cell_of f3 1
    have y2 := cell_of f3 2
    have q0 := cell_of r3 0
    have q1 := cell_of r3 1
    have q2 := cell_of r3 2
    simp only [Nat.zero_add, List.getElem?_toArray, List.getElem?_cons_zero, List.getElem?_cons_succ] at v2 v3 v4 x0 x1 x5 y0 y1 y2 q0 q1 q2
    clear hb1 hb12 hb23 HX0 HX2 HX HB0 HB2 z0 hw0 hX CF hXl f2 f3 r3
    go_wp2_with fail
    clear hw2 hw3 hY hZ v2 v3 v4
    go_loopw [6] (fun i wr => ∃ j : Nat, i = .int .i64 j ∧ j ≤ 3 ∧ Hid (RegsOk r a b d j) ∧ Hid (w3 = wr)) (fun i _ => 3 - (intOf i).toNat)
    case atStart => exact ⟨0, rfl, by omega, Lib.hid (by unfold RegsOk; omega), rfl⟩
    case round =>
      obtain ⟨j, rfl, hj3, hok, hwr⟩ := hrel
      obtain rfl := hwr.out
      clear hwr
      rcases (by omega : j = 0 ∨ j = 1 ∨ j = 2 ∨ j = 3) with hj | hj | hj | hj
      · skip
        subst hj
        have HN : Hid (regB r 0 a = true → RegsOk r a b d (0 + 1)) := Lib.hid (fun h => by exact ⟨fun _ => h, fun h1 => absurd h1 (by decide), fun h2 => absurd h2 (by decide)⟩)
        have HF : Hid (regB r 0 a = false → (1 : Int) = V) := Lib.hid (fun h => HN0.out (by rw [HV.out]; rw [h]; simp))
        clear hok HV HN0 HY0 y2 x5 x0 x1
        by_cases hlt : (0 : Nat) < r
        · have q : regB r 0 a = decide (a < 8) := by unfold regB; rw [if_pos hlt]
          have g1 : decide ((0 : Int) < R) = true := by simp; omega
          by_cases h8 : a < 8
          · have g2 : decide ((8 : Int) ≤ a) = false := by simp; omega
            have g3 : decide (R ≤ (0 : Int)) = false := by simp; omega
            have HN := Lib.hid (HN.out (by rw [q]; simpa using h8))
            clear q HF hlt h8 hR hr3
            go_wp2_with fail
            go_roundw
            case rel => exact ⟨0 + 1, by go_num, by omega, HN, Lib.hid trivial⟩
            case measure => simp [intOf]
          · have g2 : decide ((8 : Int) ≤ a) = true := by simp; omega
            have HF := Lib.hid (HF.out (by rw [q]; simpa using h8))
            clear q HN hlt h8 hR hr3
            go_wp2_with fail
            go_ret
            exact ⟨end_i64 HF.out, HB3.out⟩
        · have q : regB r 0 a = (a == 0) := by unfold regB; rw [if_neg hlt]
          have g1 : decide ((0 : Int) < R) = false := by simp; omega
          have g3 : decide (R ≤ (0 : Int)) = true := by simp; omega
          cases h0 : a == 0
          · have HF := Lib.hid (HF.out (by rw [q, h0]))
            have h2 : (a != 0) = true := by simp [bne, h0]
            clear q HN hlt hR hr3
            go_wp2_with fail
            go_ret
            exact ⟨end_i64 HF.out, HB3.out⟩
          · have HN := Lib.hid (HN.out (by rw [q, h0]))
            have h2 : (a != 0) = false := by simp [bne, h0]
            clear q HF hlt hR hr3
            go_wp2_with fail
            go_roundw
            case rel => exact ⟨0 + 1, by go_num, by omega, HN, Lib.hid trivial⟩
            case measure => simp [intOf]
      · skip
        subst hj
        have HN : Hid (regB r 1 b = true → RegsOk r a b d (1 + 1)) := Lib.hid (fun h => by exact ⟨fun _ => hok.out.1 (by decide), fun _ => h, fun h2 => absurd h2 (by decide)⟩)
        have HF : Hid (regB r 1 b = false → (1 : Int) = V) := Lib.hid (fun h => HN0.out (by rw [HV.out]; rw [h]; simp))
        clear hok HV HN0 HY0 y2 x5 x0 x1
        by_cases hlt : (1 : Nat) < r
        · have q : regB r 1 b = decide (b < 8) := by unfold regB; rw [if_pos hlt]
          have g1 : decide ((1 : Int) < R) = true := by simp; omega
          by_cases h8 : b < 8
          · have g2 : decide ((8 : Int) ≤ b) = false := by simp; omega
            have g3 : decide (R ≤ (1 : Int)) = false := by simp; omega
            have HN := Lib.hid (HN.out (by rw [q]; simpa using h8))
            clear q HF hlt h8 hR hr3
            go_wp2_with fail
            go_roundw
            case rel => exact ⟨1 + 1, by go_num, by omega, HN, Lib.hid trivial⟩
            case measure => simp [intOf]
          · have g2 : decide ((8 : Int) ≤ b) = true := by simp; omega
            have HF := Lib.hid (HF.out (by rw [q]; simpa using h8))
            clear q HN hlt h8 hR hr3
            go_wp2_with fail
            go_ret
            exact ⟨end_i64 HF.out, HB3.out⟩
        · have q : regB r 1 b = (b == 0) := by unfold regB; rw [if_neg hlt]
          have g1 : decide ((1 : Int) < R) = false := by simp; omega
          have g3 : decide (R ≤ (1 : Int)) = true := by simp; omega
          cases h0 : b == 0
          · have HF := Lib.hid (HF.out (by rw [q, h0]))
            have h2 : (b != 0) = true := by simp [bne, h0]
            clear q HN hlt hR hr3
            go_wp2_with fail
            go_ret
            exact ⟨end_i64 HF.out, HB3.out⟩
          · have HN := Lib.hid (HN.out (by rw [q, h0]))
            have h2 : (b != 0) = false := by simp [bne, h0]
            clear q HF hlt hR hr3
            go_wp2_with fail
            go_roundw
            case rel => exact ⟨1 + 1, by go_num, by omega, HN, Lib.hid trivial⟩
            case measure => simp [intOf]
      · skip
        subst hj
        have HN : Hid (regB r 2 d = true → RegsOk r a b d (2 + 1)) := Lib.hid (fun h => by exact ⟨fun _ => hok.out.1 (by decide), fun _ => hok.out.2.1 (by decide), fun _ => h⟩)
        have HF : Hid (regB r 2 d = false → (1 : Int) = V) := Lib.hid (fun h => HN0.out (by rw [HV.out]; rw [h]; simp))
        clear hok HV HN0 HY0 y2 x5 x0 x1
        by_cases hlt : (2 : Nat) < r
        · have q : regB r 2 d = decide (d < 8) := by unfold regB; rw [if_pos hlt]
          have g1 : decide ((2 : Int) < R) = true := by simp; omega
          by_cases h8 : d < 8
          · have g2 : decide ((8 : Int) ≤ d) = false := by simp; omega
            have g3 : decide (R ≤ (2 : Int)) = false := by simp; omega
            have HN := Lib.hid (HN.out (by rw [q]; simpa using h8))
            clear q HF hlt h8 hR hr3
            go_wp2_with fail
            go_roundw
            case rel => exact ⟨2 + 1, by go_num, by omega, HN, Lib.hid trivial⟩
            case measure => simp [intOf]
          · have g2 : decide ((8 : Int) ≤ d) = true := by simp; omega
            have HF := Lib.hid (HF.out (by rw [q]; simpa using h8))
            clear q HN hlt h8 hR hr3
            go_wp2_with fail
            go_ret
            exact ⟨end_i64 HF.out, HB3.out⟩
        · have q : regB r 2 d = (d == 0) := by unfold regB; rw [if_neg hlt]
          have g1 : decide ((2 : Int) < R) = false := by simp; omega
          have g3 : decide (R ≤ (2 : Int)) = true := by simp; omega
          cases h0 : d == 0
          · have HF := Lib.hid (HF.out (by rw [q, h0]))
            have h2 : (d != 0) = true := by simp [bne, h0]
            clear q HN hlt hR hr3
            go_wp2_with fail
            go_ret
            exact ⟨end_i64 HF.out, HB3.out⟩
          · have HN := Lib.hid (HN.out (by rw [q, h0]))
            have h2 : (d != 0) = false := by simp [bne, h0]
            clear q HF hlt hR hr3
            go_wp2_with fail
            go_roundw
            case rel => exact ⟨2 + 1, by go_num, by omega, HN, Lib.hid trivial⟩
            case measure => simp [intOf]
      · subst hj
        replace HV : Hid (okV ⟨k, c, a, b, d, n⟩ = ((cal == !(c == 0)) && decide (c ≤ 14) && (if num then decide (lo ≤ n ∧ n ≤ hi) else n == 0))) := Lib.hid (by
          have h := hok.out
          unfold RegsOk at h
          rw [HV.out, h.1 (by decide), h.2.1 (by decide), h.2.2 (by decide)]; simp only [Bool.and_true])
        clear hok y1 q0 q1 q2 hR hr3
        have HCAL : Hid (okV ⟨k, c, a, b, d, n⟩ = (if num then decide (lo ≤ n ∧ n ≤ hi) else n == 0) ∨ okV ⟨k, c, a, b, d, n⟩ = false) := Lib.hid (by rw [HV.out]; cases (cal == !(c == 0)) <;> cases (decide (c ≤ 14)) <;> simp)
        cases cal
        · cases hc : c == 0
          · have HF := Lib.hid (HN0.out (by rw [HV.out, hc]; rfl))
            have g1 : (c != 0) = true := by simp [bne, hc]
            go_wp2_with fail
            go_ret
            exact ⟨end_i64 HF.out, HB3.out⟩
          · have g1 : (c != 0) = false := by simp [bne, hc]
            have hc1 : c = 0 := by simpa using hc
            have HV2 : Hid (okV ⟨k, c, a, b, d, n⟩ = (if num then decide (lo ≤ n ∧ n ≤ hi) else n == 0)) := Lib.hid (by rw [HV.out, hc, hc1]; simp)
            clear HV HCAL hc hc1
            cases num
            · cases hn0 : n == 0
              · have HF := Lib.hid (HN0.out (by rw [HV2.out, hn0]; rfl))
                have hn2 : (n != 0) = true := by simp [bne, hn0]
                clear CN
                go_wp2_with fail
                go_ret
                exact ⟨end_i64 HF.out, HB3.out⟩
              · have HF := Lib.hid (HY0.out (by rw [HV2.out, hn0]; rfl))
                have hn2 : (n != 0) = false := by simp [bne, hn0]
                clear CN
                go_wp2_with fail
                go_ret
                exact ⟨end_i64 HF.out, HB3.out⟩
            · cases hd : decide (lo ≤ n ∧ n ≤ hi)
              · have HF := Lib.hid (HN0.out (by rw [HV2.out, if_pos rfl, hd]))
                have CN2 := Lib.hid (CN.out rfl)
                rw [hd] at CN2
                clear CN hd
                go_wp2_with fail
                refine (CN2.out _).mono ?_
                rintro e wn ⟨rfl, rfl⟩
                go_wp2_with fail
                go_ret
                exact ⟨end_i64 HF.out, HB3.out⟩
              · have HF := Lib.hid (HY0.out (by rw [HV2.out, if_pos rfl, hd]))
                have CN2 := Lib.hid (CN.out rfl)
                rw [hd] at CN2
                clear CN hd
                go_wp2_with fail
                refine (CN2.out _).mono ?_
                rintro e wn ⟨rfl, rfl⟩
                go_wp2_with fail
                go_ret
                exact ⟨end_i64 HF.out, HB3.out⟩
        · by_cases h1 : c < 1
          · have HF := Lib.hid (HN0.out (by rw [HV.out, show c = 0 by omega]; rfl))
            have g1 : decide (c < 1) = true := by simpa using h1
            go_wp2_with fail
            go_ret
            exact ⟨end_i64 HF.out, HB3.out⟩
          · have g1 : decide (c < 1) = false := by simpa using h1
            by_cases h2 : 14 < c
            · have HF := Lib.hid (HN0.out (by rw [HV.out]; simp; omega))
              have g2 : decide ((14 : Int) < c) = true := by simpa using h2
              go_wp2_with fail
              go_ret
              exact ⟨end_i64 HF.out, HB3.out⟩
            · have g2 : decide ((14 : Int) < c) = false := by simpa using h2
              have HV2 : Hid (okV ⟨k, c, a, b, d, n⟩ = (if num then decide (lo ≤ n ∧ n ≤ hi) else n == 0)) := Lib.hid (by
                have e1 : (c == 0) = false := by simp; omega
                rw [HV.out, e1]; simp; omega)
              clear HV HCAL h1 h2
              cases num
              · cases hn0 : n == 0
                · have HF := Lib.hid (HN0.out (by rw [HV2.out, hn0]; rfl))
                  have hn2 : (n != 0) = true := by simp [bne, hn0]
                  clear CN
                  go_wp2_with fail
                  go_ret
                  exact ⟨end_i64 HF.out, HB3.out⟩
                · have HF := Lib.hid (HY0.out (by rw [HV2.out, hn0]; rfl))
                  have hn2 : (n != 0) = false := by simp [bne, hn0]
                  clear CN
                  go_wp2_with fail
                  go_ret
                  exact ⟨end_i64 HF.out, HB3.out⟩
              · cases hd : decide (lo ≤ n ∧ n ≤ hi)
                · have HF := Lib.hid (HN0.out (by rw [HV2.out, if_pos rfl, hd]))
                  have CN2 := Lib.hid (CN.out rfl)
                  rw [hd] at CN2
                  clear CN hd
                  go_wp2_with fail
                  refine (CN2.out _).mono ?_
                  rintro e wn ⟨rfl, rfl⟩
                  go_wp2_with fail
                  go_ret
                  exact ⟨end_i64 HF.out, HB3.out⟩
                · have HF := Lib.hid (HY0.out (by rw [HV2.out, if_pos rfl, hd]))
                  have CN2 := Lib.hid (CN.out rfl)
                  rw [hd] at CN2
                  clear CN hd
                  go_wp2_with fail
                  refine (CN2.out _).mono ?_
                  rintro e wn ⟨rfl, rfl⟩
                  go_wp2_with fail
                  go_ret
                  exact ⟨end_i64 HF.out, HB3.out⟩
end Go.Proofs.YtkkcngppmhebbaaGreatDoor
