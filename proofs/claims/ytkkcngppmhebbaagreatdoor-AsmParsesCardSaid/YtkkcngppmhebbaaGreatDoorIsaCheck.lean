/-
  isa.Check: may an instruction be?
-/
import Derived.Test.YtkkcngppmhebbaaGreatDoorIsaForm
import Derived.Deep.QuietTactic
import Derived.BigQuiet
import Derived.Lib.Hide
set_option linter.unusedVariables false
set_option linter.unusedSimpArgs false
namespace Go.Proofs.YtkkcngppmhebbaaGreatDoor
open Go.RowKit

/-- an instruction at a place of memory -/
structure CmdAt (w : World) (g o : Nat) (x : Cmd) : Prop where
  c0 : w.cell? ⟨g, o, none⟩ = some (.int .u8 x.k)
  c1 : w.cell? ⟨g, o + 1, none⟩ = some (.int .u8 x.c)
  c2 : w.cell? ⟨g, o + 2, none⟩ = some (.int .u8 x.a)
  c3 : w.cell? ⟨g, o + 3, none⟩ = some (.int .u8 x.b)
  c4 : w.cell? ⟨g, o + 4, none⟩ = some (.int .u8 x.d)
  c5 : w.cell? ⟨g, o + 5, none⟩ = some (.int .i64 x.n)
theorem CmdAt.keep {w w' : World} {g o : Nat} {x : Cmd} (h : CmdAt w g o x) (hk : ∀ o', w'.cell? ⟨g, o', none⟩ = w.cell? ⟨g, o', none⟩) : CmdAt w' g o x :=
  ⟨(hk _).trans h.c0, (hk _).trans h.c1, (hk _).trans h.c2, (hk _).trans h.c3, (hk _).trans h.c4, (hk _).trans h.c5⟩
theorem CmdAt.lt {w : World} {g o : Nat} {x : Cmd} (h : CmdAt w g o x) : g < w.heap.size := World.block_lt_of_cell? _ _ h.c0
theorem CmdAt.mono {w w' : World} {g o : Nat} {x : Cmd} (h : CmdAt w g o x) {B : Nat} (hb : Below B w w') (hg : g < B) : CmdAt w' g o x :=
  h.keep fun o' => hb.cell (p := ⟨g, o', none⟩) hg

def RegsOk (r : Nat) (a b d : Int) (j : Nat) : Prop := (0 < j → regB r 0 a = true) ∧ (1 < j → regB r 1 b = true) ∧ (2 < j → regB r 2 d = true)
theorem okV_of {k c a b d n : Int} {f : Form} (h : formV k = some f) : okV ⟨k, c, a, b, d, n⟩ = ((f.cal == !(c == 0)) && decide (c ≤ 14) && regB f.regs 0 a && regB f.regs 1 b && regB f.regs 2 d && (if f.num then decide (f.lo ≤ n ∧ n ≤ f.hi) else n == 0)) := by
  unfold okV; dsimp only; rw [h]
theorem formV_regs {k : Int} {f : Form} (h : formV k = some f) : f.regs ≤ 3 := by
  rcases formV_cases k with (rfl | rfl | rfl | rfl | rfl | rfl | rfl | rfl | rfl | rfl | rfl | rfl | rfl | rfl | rfl) | ⟨h0, -⟩
  all_goals first | (obtain rfl := (Option.some.inj h).symm; decide) | (rw [h0] at h; cases h)
def okE (o : Cmd) : Int := if okV o then 0 else 1
theorem end_no {o : Cmd} (h : okV o = false) : (1 : Int) = okE o := by unfold okE; rw [h]; rfl
theorem end_yes {o : Cmd} (h : okV o = true) : (0 : Int) = okE o := by unfold okE; rw [h]; rfl
theorem end_i64 {a b : Int} (h : a = b) : Ending.returned (.int .i64 a) = .returned (.int .i64 b) := by rw [h]

set_option maxHeartbeats 8000000 in
set_option maxRecDepth 100000 in
theorem icheck_any (k c a b d n : Int) (w : World) :
    Calls Tryz.prog 110 #[.agg #[.int .u8 k, .int .u8 c, .int .u8 a, .int .u8 b, .int .u8 d, .int .i64 n]] w fun e w' => e = .returned (.int .i64 (okE ⟨k, c, a, b, d, n⟩)) ∧ Below w.heap.size w w' := by
  obtain ⟨X, hX⟩ : ∃ X, w.heap.size = X := ⟨_, rfl⟩
  obtain ⟨w0, hw0⟩ : ∃ w0, w.alloc (.cells #[.int .u8 k, .int .u8 c, .int .u8 a, .int .u8 b, .int .u8 d, .int .i64 n] 79 (0, 0)) = w0 := ⟨_, rfl⟩
  have HB0 : Hid (Below w.heap.size w w0) := Lib.hid (by rw [← hw0]; exact (Below.refl _ _).alloc (Nat.le_refl _) _)
  have HX0 : Hid (CmdAt w0 X 0 ⟨k, c, a, b, d, n⟩) := Lib.hid (by rw [← hw0, ← hX]; constructor <;> simp)
  have z0 := HX0.out.c0
  simp only [Nat.zero_add] at z0
  obtain ⟨V, hV⟩ : ∃ V, okE ⟨k, c, a, b, d, n⟩ = V := ⟨_, rfl⟩
  have HN0 : Hid (okV ⟨k, c, a, b, d, n⟩ = false → (1 : Int) = V) := Lib.hid fun h => (end_no h).trans hV
  have HY0 : Hid (okV ⟨k, c, a, b, d, n⟩ = true → (0 : Int) = V) := Lib.hid fun h => (end_yes h).trans hV
  rw [hV]
  clear hV
  cases hf : formV k with
  | none =>
    have CF := Lib.hid (form_none k hf)
    have HF := Lib.hid (HN0.out (by unfold okV; dsimp only; rw [hf]))
    clear hf HN0 HY0
    go_enter Tryz.func110, Tryz.ntmps110
    go_wp2_with fail
    refine (CF.out _).mono ?_
    rintro e w1 ⟨rfl, hb1⟩
    have HB1 : Hid (Below w.heap.size w w1) := Lib.hid (HB0.out.trans (hb1.mono HB0.out.size))
    clear hb1 CF HX0 hw0 z0 hX
    go_wp2_with fail
    go_ret
    exact ⟨end_i64 HF.out, HB1.out.alloc HB1.out.size _⟩
  | some f =>
    have CF := Lib.hid (form_some k f hf)
    have HV := Lib.hid (okV_of (c := c) (a := a) (b := b) (d := d) (n := n) hf)
    have hr3 := formV_regs hf
    obtain ⟨cal, r, num, lo, hi, jump⟩ := f
    dsimp only at CF HV hr3
    obtain ⟨R, hR⟩ : ∃ R : Int, (r : Int) = R := ⟨_, rfl⟩
    rw [hR] at CF
    clear hf
    by_cases h1 : cal = !(c == 0)
    · by_cases h2 : c ≤ 14
      · replace HV : Hid (okV ⟨k, c, a, b, d, n⟩ = (regB r 0 a && regB r 1 b && regB r 2 d && (if num then decide (lo ≤ n ∧ n ≤ hi) else n == 0))) := Lib.hid (by rw [HV.out, h1]; simp [h2])
        have g0 : decide ((14 : Int) < c) = false := by simp; omega
        clear h2
        have i0 : ∀ w, (Instr.index 121 (.agg #[.int .u8 a, .int .u8 b, .int .u8 d]) (.int .i64 0)).run Tryz.prog w = .ok (.int .u8 a) w := fun _ => by kernel_rfl
        have i1 : ∀ w, (Instr.index 121 (.agg #[.int .u8 a, .int .u8 b, .int .u8 d]) (.int .i64 1)).run Tryz.prog w = .ok (.int .u8 b) w := fun _ => by kernel_rfl
        have i2 : ∀ w, (Instr.index 121 (.agg #[.int .u8 a, .int .u8 b, .int .u8 d]) (.int .i64 2)).run Tryz.prog w = .ok (.int .u8 d) w := fun _ => by kernel_rfl
        subst h1
        cases hc0 : c == 0
        · rw [hc0] at CF
          simp only [Bool.not_false] at CF
          have hcn : (c != 0) = true := by simp [bne, hc0]
          go_enter Tryz.func110, Tryz.ntmps110
          go_wp2_with fail
          refine (CF.out _).mono ?_
          rintro e w1 ⟨rfl, hb1⟩
          obtain ⟨Y, hY⟩ : ∃ Y, w1.heap.size = Y := ⟨_, rfl⟩
          obtain ⟨w2, hw2⟩ : ∃ w2, w1.alloc (.cells #[.bool true, .int .i64 R, .bool num, .int .i64 lo, .int .i64 hi] 340 (0, 0)) = w2 := ⟨_, rfl⟩
          have hb12 : Below w1.heap.size w1 w2 := by rw [← hw2]; exact (Below.refl _ _).alloc (Nat.le_refl _) _
          have hXl : X < w1.heap.size := Nat.lt_of_lt_of_le HX0.out.lt hb1.size
          have HX := Lib.hid ((HX0.out.mono hb1 HX0.out.lt).mono hb12 hXl)
          have HB2 : Hid (Below w.heap.size w w2) := Lib.hid ((HB0.out.trans (hb1.mono HB0.out.size)).trans (hb12.mono (Nat.le_trans HB0.out.size hb1.size)))
          have y0 : w2.cell? ⟨Y, 0, none⟩ = some (.bool true) := by rw [← hw2, ← hY]; simp
          have y1 : w2.cell? ⟨Y, 1, none⟩ = some (.int .i64 R) := by rw [← hw2, ← hY]; simp
          have y2 : w2.cell? ⟨Y, 2, none⟩ = some (.bool num) := by rw [← hw2, ← hY]; simp
          have y3 : w2.cell? ⟨Y, 3, none⟩ = some (.int .i64 lo) := by rw [← hw2, ← hY]; simp
          have y4 : w2.cell? ⟨Y, 4, none⟩ = some (.int .i64 hi) := by rw [← hw2, ← hY]; simp
          have x0 := (HX.out).c0
          have x1 := (HX.out).c1
          have x2 := (HX.out).c2
          have x3 := (HX.out).c3
          have x4 := (HX.out).c4
          have x5 := (HX.out).c5
          simp only [Nat.zero_add] at x0 x1 x2 x3 x4 x5
          clear hb1 hb12 HX0 HB0 z0 hw0 hX CF hXl
          go_wp2_with fail
          clear hw2 hY g0 hcn hc0 y0 x0 x1 x2 x3 x4 HX
          go_loopw [35] (fun i wr => ∃ j : Nat, i = .int .i64 j ∧ j ≤ 3 ∧ Hid (RegsOk r a b d j) ∧ Hid (w2 = wr)) (fun i _ => 3 - (intOf i).toNat)
          case atStart => exact ⟨0, rfl, by omega, Lib.hid (by unfold RegsOk; omega), rfl⟩
          case round =>
            obtain ⟨j, rfl, hj3, hok, hwr⟩ := hrel
            obtain rfl := hwr.out
            clear hwr
            rcases (by omega : j = 0 ∨ j = 1 ∨ j = 2 ∨ j = 3) with hj | hj | hj | hj
            · skip
              subst hj
              have HN : Hid (regB r 0 a = true → RegsOk r a b d (0 + 1)) := Lib.hid (fun h => by exact ⟨fun _ => h, fun h1 => absurd h1 (by decide), fun h2 => absurd h2 (by decide)⟩)
              have HF : Hid (regB r 0 a = false → (1 : Int) = V) := Lib.hid (fun h => HN0.out (by rw [HV.out]; rw [h]; simp))
              clear hok HV HN0 HY0 y2 y3 y4 x5
              by_cases hlt : (0 : Nat) < r
              · have q : regB r 0 a = decide (a < 8) := by unfold regB; rw [if_pos hlt]
                have g1 : decide ((0 : Int) < R) = true := by simp; omega
                by_cases h8 : a < 8
                · have g2 : decide ((8 : Int) ≤ a) = false := by simp; omega
                  have g3 : decide (R ≤ (0 : Int)) = false := by simp; omega
                  have HN := Lib.hid (HN.out (by rw [q]; simpa using h8))
                  clear q HF hlt h8 hR hr3
                  go_wp2_with fail
                  go_roundw
                  case rel => exact ⟨0 + 1, by go_num, by omega, HN, Lib.hid trivial⟩
                  case measure => simp [intOf]
                · have g2 : decide ((8 : Int) ≤ a) = true := by simp; omega
                  have HF := Lib.hid (HF.out (by rw [q]; simpa using h8))
                  clear q HN hlt h8 hR hr3
                  go_wp2_with fail
                  go_ret
                  exact ⟨end_i64 HF.out, HB2.out⟩
              · have q : regB r 0 a = (a == 0) := by unfold regB; rw [if_neg hlt]
                have g1 : decide ((0 : Int) < R) = false := by simp; omega
                have g3 : decide (R ≤ (0 : Int)) = true := by simp; omega
                cases h0 : a == 0
                · have HF := Lib.hid (HF.out (by rw [q, h0]))
                  have h2 : (a != 0) = true := by simp [bne, h0]
                  clear q HN hlt hR hr3
                  go_wp2_with fail
                  go_ret
                  exact ⟨end_i64 HF.out, HB2.out⟩
                · have HN := Lib.hid (HN.out (by rw [q, h0]))
                  have h2 : (a != 0) = false := by simp [bne, h0]
                  clear q HF hlt hR hr3
                  go_wp2_with fail
                  go_roundw
                  case rel => exact ⟨0 + 1, by go_num, by omega, HN, Lib.hid trivial⟩
                  case measure => simp [intOf]
            · skip
              subst hj
              have HN : Hid (regB r 1 b = true → RegsOk r a b d (1 + 1)) := Lib.hid (fun h => by exact ⟨fun _ => hok.out.1 (by decide), fun _ => h, fun h2 => absurd h2 (by decide)⟩)
              have HF : Hid (regB r 1 b = false → (1 : Int) = V) := Lib.hid (fun h => HN0.out (by rw [HV.out]; rw [h]; simp))
              clear hok HV HN0 HY0 y2 y3 y4 x5
              by_cases hlt : (1 : Nat) < r
              · have q : regB r 1 b = decide (b < 8) := by unfold regB; rw [if_pos hlt]
                have g1 : decide ((1 : Int) < R) = true := by simp; omega
                by_cases h8 : b < 8
                · have g2 : decide ((8 : Int) ≤ b) = false := by simp; omega
                  have g3 : decide (R ≤ (1 : Int)) = false := by simp; omega
                  have HN := Lib.hid (HN.out (by rw [q]; simpa using h8))
                  clear q HF hlt h8 hR hr3
                  go_wp2_with fail
                  go_roundw
                  case rel => exact ⟨1 + 1, by go_num, by omega, HN, Lib.hid trivial⟩
                  case measure => simp [intOf]
                · have g2 : decide ((8 : Int) ≤ b) = true := by simp; omega
                  have HF := Lib.hid (HF.out (by rw [q]; simpa using h8))
                  clear q HN hlt h8 hR hr3
                  go_wp2_with fail
                  go_ret
                  exact ⟨end_i64 HF.out, HB2.out⟩
              · have q : regB r 1 b = (b == 0) := by unfold regB; rw [if_neg hlt]
                have g1 : decide ((1 : Int) < R) = false := by simp; omega
                have g3 : decide (R ≤ (1 : Int)) = true := by simp; omega
                cases h0 : b == 0
                · have HF := Lib.hid (HF.out (by rw [q, h0]))
                  have h2 : (b != 0) = true := by simp [bne, h0]
                  clear q HN hlt hR hr3
                  go_wp2_with fail
                  go_ret
                  exact ⟨end_i64 HF.out, HB2.out⟩
                · have HN := Lib.hid (HN.out (by rw [q, h0]))
                  have h2 : (b != 0) = false := by simp [bne, h0]
                  clear q HF hlt hR hr3
                  go_wp2_with fail
                  go_roundw
                  case rel => exact ⟨1 + 1, by go_num, by omega, HN, Lib.hid trivial⟩
                  case measure => simp [intOf]
            · skip
              subst hj
              have HN : Hid (regB r 2 d = true → RegsOk r a b d (2 + 1)) := Lib.hid (fun h => by exact ⟨fun _ => hok.out.1 (by decide), fun _ => hok.out.2.1 (by decide), fun _ => h⟩)
              have HF : Hid (regB r 2 d = false → (1 : Int) = V) := Lib.hid (fun h => HN0.out (by rw [HV.out]; rw [h]; simp))
              clear hok HV HN0 HY0 y2 y3 y4 x5
              by_cases hlt : (2 : Nat) < r
              · have q : regB r 2 d = decide (d < 8) := by unfold regB; rw [if_pos hlt]
                have g1 : decide ((2 : Int) < R) = true := by simp; omega
                by_cases h8 : d < 8
                · have g2 : decide ((8 : Int) ≤ d) = false := by simp; omega
                  have g3 : decide (R ≤ (2 : Int)) = false := by simp; omega
                  have HN := Lib.hid (HN.out (by rw [q]; simpa using h8))
                  clear q HF hlt h8 hR hr3
                  go_wp2_with fail
                  go_roundw
                  case rel => exact ⟨2 + 1, by go_num, by omega, HN, Lib.hid trivial⟩
                  case measure => simp [intOf]
                · have g2 : decide ((8 : Int) ≤ d) = true := by simp; omega
                  have HF := Lib.hid (HF.out (by rw [q]; simpa using h8))
                  clear q HN hlt h8 hR hr3
                  go_wp2_with fail
                  go_ret
                  exact ⟨end_i64 HF.out, HB2.out⟩
              · have q : regB r 2 d = (d == 0) := by unfold regB; rw [if_neg hlt]
                have g1 : decide ((2 : Int) < R) = false := by simp; omega
                have g3 : decide (R ≤ (2 : Int)) = true := by simp; omega
                cases h0 : d == 0
                · have HF := Lib.hid (HF.out (by rw [q, h0]))
                  have h2 : (d != 0) = true := by simp [bne, h0]
                  clear q HN hlt hR hr3
                  go_wp2_with fail
                  go_ret
                  exact ⟨end_i64 HF.out, HB2.out⟩
                · have HN := Lib.hid (HN.out (by rw [q, h0]))
                  have h2 : (d != 0) = false := by simp [bne, h0]
                  clear q HF hlt hR hr3
                  go_wp2_with fail
                  go_roundw
                  case rel => exact ⟨2 + 1, by go_num, by omega, HN, Lib.hid trivial⟩
                  case measure => simp [intOf]
            · subst hj
              have HV : Hid (okV ⟨k, c, a, b, d, n⟩ = (if num then decide (lo ≤ n ∧ n ≤ hi) else n == 0)) := Lib.hid (by
                have h := hok.out
                unfold RegsOk at h
                rw [HV.out, h.1 (by decide), h.2.1 (by decide), h.2.2 (by decide)]; rfl)
              clear hok i0 i1 i2 y1
              cases num
              · cases hn : n == 0
                · have HF := Lib.hid (HN0.out (by rw [HV.out, hn]; rfl))
                  have hn2 : (n != 0) = true := by simp [bne, hn]
                  go_wp2_with fail
                  go_ret
                  exact ⟨end_i64 HF.out, HB2.out⟩
                · have HF := Lib.hid (HY0.out (by rw [HV.out, hn]; rfl))
                  have hn2 : (n != 0) = false := by simp [bne, hn]
                  go_wp2_with fail
                  go_ret
                  exact ⟨end_i64 HF.out, HB2.out⟩
              · by_cases h1 : n < lo
                · have HF := Lib.hid (HN0.out (by rw [HV.out, if_pos rfl]; simp; omega))
                  have g1 : decide (n < lo) = true := by simpa using h1
                  go_wp2_with fail
                  go_ret
                  exact ⟨end_i64 HF.out, HB2.out⟩
                · have g1 : decide (n < lo) = false := by simpa using h1
                  by_cases h2 : hi < n
                  · have HF := Lib.hid (HN0.out (by rw [HV.out, if_pos rfl]; simp; omega))
                    have g2 : decide (hi < n) = true := by simpa using h2
                    go_wp2_with fail
                    go_ret
                    exact ⟨end_i64 HF.out, HB2.out⟩
                  · have HF := Lib.hid (HY0.out (by rw [HV.out, if_pos rfl]; simp; omega))
                    have g2 : decide (hi < n) = false := by simpa using h2
                    go_wp2_with fail
                    go_ret
                    exact ⟨end_i64 HF.out, HB2.out⟩
        · rw [hc0] at CF
          simp only [Bool.not_true] at CF
          have hcn : (c != 0) = false := by simp [bne, hc0]
          go_enter Tryz.func110, Tryz.ntmps110
          go_wp2_with fail
          refine (CF.out _).mono ?_
          rintro e w1 ⟨rfl, hb1⟩
          obtain ⟨Y, hY⟩ : ∃ Y, w1.heap.size = Y := ⟨_, rfl⟩
          obtain ⟨w2, hw2⟩ : ∃ w2, w1.alloc (.cells #[.bool false, .int .i64 R, .bool num, .int .i64 lo, .int .i64 hi] 340 (0, 0)) = w2 := ⟨_, rfl⟩
          have hb12 : Below w1.heap.size w1 w2 := by rw [← hw2]; exact (Below.refl _ _).alloc (Nat.le_refl _) _
          have hXl : X < w1.heap.size := Nat.lt_of_lt_of_le HX0.out.lt hb1.size
          have HX := Lib.hid ((HX0.out.mono hb1 HX0.out.lt).mono hb12 hXl)
          have HB2 : Hid (Below w.heap.size w w2) := Lib.hid ((HB0.out.trans (hb1.mono HB0.out.size)).trans (hb12.mono (Nat.le_trans HB0.out.size hb1.size)))
          have y0 : w2.cell? ⟨Y, 0, none⟩ = some (.bool false) := by rw [← hw2, ← hY]; simp
          have y1 : w2.cell? ⟨Y, 1, none⟩ = some (.int .i64 R) := by rw [← hw2, ← hY]; simp
          have y2 : w2.cell? ⟨Y, 2, none⟩ = some (.bool num) := by rw [← hw2, ← hY]; simp
          have y3 : w2.cell? ⟨Y, 3, none⟩ = some (.int .i64 lo) := by rw [← hw2, ← hY]; simp
          have y4 : w2.cell? ⟨Y, 4, none⟩ = some (.int .i64 hi) := by rw [← hw2, ← hY]; simp
          have x0 := (HX.out).c0
          have x1 := (HX.out).c1
          have x2 := (HX.out).c2
          have x3 := (HX.out).c3
          have x4 := (HX.out).c4
          have x5 := (HX.out).c5
          simp only [Nat.zero_add] at x0 x1 x2 x3 x4 x5
          clear hb1 hb12 HX0 HB0 z0 hw0 hX CF hXl
          go_wp2_with fail
          clear hw2 hY g0 hcn hc0 y0 x0 x1 x2 x3 x4 HX
          go_loopw [35] (fun i wr => ∃ j : Nat, i = .int .i64 j ∧ j ≤ 3 ∧ Hid (RegsOk r a b d j) ∧ Hid (w2 = wr)) (fun i _ => 3 - (intOf i).toNat)
          case atStart => exact ⟨0, rfl, by omega, Lib.hid (by unfold RegsOk; omega), rfl⟩
          case round =>
            obtain ⟨j, rfl, hj3, hok, hwr⟩ := hrel
            obtain rfl := hwr.out
            clear hwr
            rcases (by omega : j = 0 ∨ j = 1 ∨ j = 2 ∨ j = 3) with hj | hj | hj | hj
            · skip
              subst hj
              have HN : Hid (regB r 0 a = true → RegsOk r a b d (0 + 1)) := Lib.hid (fun h => by exact ⟨fun _ => h, fun h1 => absurd h1 (by decide), fun h2 => absurd h2 (by decide)⟩)
              have HF : Hid (regB r 0 a = false → (1 : Int) = V) := Lib.hid (fun h => HN0.out (by rw [HV.out]; rw [h]; simp))
              clear hok HV HN0 HY0 y2 y3 y4 x5
              by_cases hlt : (0 : Nat) < r
              · have q : regB r 0 a = decide (a < 8) := by unfold regB; rw [if_pos hlt]
                have g1 : decide ((0 : Int) < R) = true := by simp; omega
                by_cases h8 : a < 8
                · have g2 : decide ((8 : Int) ≤ a) = false := by simp; omega
                  have g3 : decide (R ≤ (0 : Int)) = false := by simp; omega
                  have HN := Lib.hid (HN.out (by rw [q]; simpa using h8))
                  clear q HF hlt h8 hR hr3
                  go_wp2_with fail
                  go_roundw
                  case rel => exact ⟨0 + 1, by go_num, by omega, HN, Lib.hid trivial⟩
                  case measure => simp [intOf]
                · have g2 : decide ((8 : Int) ≤ a) = true := by simp; omega
                  have HF := Lib.hid (HF.out (by rw [q]; simpa using h8))
                  clear q HN hlt h8 hR hr3
                  go_wp2_with fail
                  go_ret
                  exact ⟨end_i64 HF.out, HB2.out⟩
              · have q : regB r 0 a = (a == 0) := by unfold regB; rw [if_neg hlt]
                have g1 : decide ((0 : Int) < R) = false := by simp; omega
                have g3 : decide (R ≤ (0 : Int)) = true := by simp; omega
                cases h0 : a == 0
                · have HF := Lib.hid (HF.out (by rw [q, h0]))
                  have h2 : (a != 0) = true := by simp [bne, h0]
                  clear q HN hlt hR hr3
                  go_wp2_with fail
                  go_ret
                  exact ⟨end_i64 HF.out, HB2.out⟩
                · have HN := Lib.hid (HN.out (by rw [q, h0]))
                  have h2 : (a != 0) = false := by simp [bne, h0]
                  clear q HF hlt hR hr3
                  go_wp2_with fail
                  go_roundw
                  case rel => exact ⟨0 + 1, by go_num, by omega, HN, Lib.hid trivial⟩
                  case measure => simp [intOf]
            · skip
              subst hj
              have HN : Hid (regB r 1 b = true → RegsOk r a b d (1 + 1)) := Lib.hid (fun h => by exact ⟨fun _ => hok.out.1 (by decide), fun _ => h, fun h2 => absurd h2 (by decide)⟩)
              have HF : Hid (regB r 1 b = false → (1 : Int) = V) := Lib.hid (fun h => HN0.out (by rw [HV.out]; rw [h]; simp))
              clear hok HV HN0 HY0 y2 y3 y4 x5
              by_cases hlt : (1 : Nat) < r
              · have q : regB r 1 b = decide (b < 8) := by unfold regB; rw [if_pos hlt]
                have g1 : decide ((1 : Int) < R) = true := by simp; omega
                by_cases h8 : b < 8
                · have g2 : decide ((8 : Int) ≤ b) = false := by simp; omega
                  have g3 : decide (R ≤ (1 : Int)) = false := by simp; omega
                  have HN := Lib.hid (HN.out (by rw [q]; simpa using h8))
                  clear q HF hlt h8 hR hr3
                  go_wp2_with fail
                  go_roundw
                  case rel => exact ⟨1 + 1, by go_num, by omega, HN, Lib.hid trivial⟩
                  case measure => simp [intOf]
                · have g2 : decide ((8 : Int) ≤ b) = true := by simp; omega
                  have HF := Lib.hid (HF.out (by rw [q]; simpa using h8))
                  clear q HN hlt h8 hR hr3
                  go_wp2_with fail
                  go_ret
                  exact ⟨end_i64 HF.out, HB2.out⟩
              · have q : regB r 1 b = (b == 0) := by unfold regB; rw [if_neg hlt]
                have g1 : decide ((1 : Int) < R) = false := by simp; omega
                have g3 : decide (R ≤ (1 : Int)) = true := by simp; omega
                cases h0 : b == 0
                · have HF := Lib.hid (HF.out (by rw [q, h0]))
                  have h2 : (b != 0) = true := by simp [bne, h0]
                  clear q HN hlt hR hr3
                  go_wp2_with fail
                  go_ret
                  exact ⟨end_i64 HF.out, HB2.out⟩
                · have HN := Lib.hid (HN.out (by rw [q, h0]))
                  have h2 : (b != 0) = false := by simp [bne, h0]
                  clear q HF hlt hR hr3
                  go_wp2_with fail
                  go_roundw
                  case rel => exact ⟨1 + 1, by go_num, by omega, HN, Lib.hid trivial⟩
                  case measure => simp [intOf]
            · skip
              subst hj
              have HN : Hid (regB r 2 d = true → RegsOk r a b d (2 + 1)) := Lib.hid (fun h => by exact ⟨fun _ => hok.out.1 (by decide), fun _ => hok.out.2.1 (by decide), fun _ => h⟩)
              have HF : Hid (regB r 2 d = false → (1 : Int) = V) := Lib.hid (fun h => HN0.out (by rw [HV.out]; rw [h]; simp))
              clear hok HV HN0 HY0 y2 y3 y4 x5
              by_cases hlt : (2 : Nat) < r
              · have q : regB r 2 d = decide (d < 8) := by unfold regB; rw [if_pos hlt]
                have g1 : decide ((2 : Int) < R) = true := by simp; omega
                by_cases h8 : d < 8
                · have g2 : decide ((8 : Int) ≤ d) = false := by simp; omega
                  have g3 : decide (R ≤ (2 : Int)) = false := by simp; omega
                  have HN := Lib.hid (HN.out (by rw [q]; simpa using h8))
                  clear q HF hlt h8 hR hr3
                  go_wp2_with fail
                  go_roundw
                  case rel => exact ⟨2 + 1, by go_num, by omega, HN, Lib.hid trivial⟩
                  case measure => simp [intOf]
                · have g2 : decide ((8 : Int) ≤ d) = true := by simp; omega
                  have HF := Lib.hid (HF.out (by rw [q]; simpa using h8))
                  clear q HN hlt h8 hR hr3
                  go_wp2_with fail
                  go_ret
                  exact ⟨end_i64 HF.out, HB2.out⟩
              · have q : regB r 2 d = (d == 0) := by unfold regB; rw [if_neg hlt]
                have g1 : decide ((2 : Int) < R) = false := by simp; omega
                have g3 : decide (R ≤ (2 : Int)) = true := by simp; omega
                cases h0 : d == 0
                · have HF := Lib.hid (HF.out (by rw [q, h0]))
                  have h2 : (d != 0) = true := by simp [bne, h0]
                  clear q HN hlt hR hr3
                  go_wp2_with fail
                  go_ret
                  exact ⟨end_i64 HF.out, HB2.out⟩
                · have HN := Lib.hid (HN.out (by rw [q, h0]))
                  have h2 : (d != 0) = false := by simp [bne, h0]
                  clear q HF hlt hR hr3
                  go_wp2_with fail
                  go_roundw
                  case rel => exact ⟨2 + 1, by go_num, by omega, HN, Lib.hid trivial⟩
                  case measure => simp [intOf]
            · subst hj
              have HV : Hid (okV ⟨k, c, a, b, d, n⟩ = (if num then decide (lo ≤ n ∧ n ≤ hi) else n == 0)) := Lib.hid (by
                have h := hok.out
                unfold RegsOk at h
                rw [HV.out, h.1 (by decide), h.2.1 (by decide), h.2.2 (by decide)]; rfl)
              clear hok i0 i1 i2 y1
              cases num
              · cases hn : n == 0
                · have HF := Lib.hid (HN0.out (by rw [HV.out, hn]; rfl))
                  have hn2 : (n != 0) = true := by simp [bne, hn]
                  go_wp2_with fail
                  go_ret
                  exact ⟨end_i64 HF.out, HB2.out⟩
                · have HF := Lib.hid (HY0.out (by rw [HV.out, hn]; rfl))
                  have hn2 : (n != 0) = false := by simp [bne, hn]
                  go_wp2_with fail
                  go_ret
                  exact ⟨end_i64 HF.out, HB2.out⟩
              · by_cases h1 : n < lo
                · have HF := Lib.hid (HN0.out (by rw [HV.out, if_pos rfl]; simp; omega))
                  have g1 : decide (n < lo) = true := by simpa using h1
                  go_wp2_with fail
                  go_ret
                  exact ⟨end_i64 HF.out, HB2.out⟩
                · have g1 : decide (n < lo) = false := by simpa using h1
                  by_cases h2 : hi < n
                  · have HF := Lib.hid (HN0.out (by rw [HV.out, if_pos rfl]; simp; omega))
                    have g2 : decide (hi < n) = true := by simpa using h2
                    go_wp2_with fail
                    go_ret
                    exact ⟨end_i64 HF.out, HB2.out⟩
                  · have HF := Lib.hid (HY0.out (by rw [HV.out, if_pos rfl]; simp; omega))
                    have g2 : decide (hi < n) = false := by simpa using h2
                    go_wp2_with fail
                    go_ret
                    exact ⟨end_i64 HF.out, HB2.out⟩
      · have HF := Lib.hid (HN0.out (by rw [HV.out]; simp [h2]))
        have g0 : decide ((14 : Int) < c) = true := by simp; omega
        clear h2 HV
        subst h1
        cases hc0 : c == 0
        · rw [hc0] at CF
          simp only [Bool.not_false] at CF
          have hcn : (c != 0) = true := by simp [bne, hc0]
          go_enter Tryz.func110, Tryz.ntmps110
          go_wp2_with fail
          refine (CF.out _).mono ?_
          rintro e w1 ⟨rfl, hb1⟩
          obtain ⟨Y, hY⟩ : ∃ Y, w1.heap.size = Y := ⟨_, rfl⟩
          obtain ⟨w2, hw2⟩ : ∃ w2, w1.alloc (.cells #[.bool true, .int .i64 R, .bool num, .int .i64 lo, .int .i64 hi] 340 (0, 0)) = w2 := ⟨_, rfl⟩
          have hb12 : Below w1.heap.size w1 w2 := by rw [← hw2]; exact (Below.refl _ _).alloc (Nat.le_refl _) _
          have hXl : X < w1.heap.size := Nat.lt_of_lt_of_le HX0.out.lt hb1.size
          have HX := Lib.hid ((HX0.out.mono hb1 HX0.out.lt).mono hb12 hXl)
          have HB2 : Hid (Below w.heap.size w w2) := Lib.hid ((HB0.out.trans (hb1.mono HB0.out.size)).trans (hb12.mono (Nat.le_trans HB0.out.size hb1.size)))
          have y0 : w2.cell? ⟨Y, 0, none⟩ = some (.bool true) := by rw [← hw2, ← hY]; simp
          have y1 : w2.cell? ⟨Y, 1, none⟩ = some (.int .i64 R) := by rw [← hw2, ← hY]; simp
          have y2 : w2.cell? ⟨Y, 2, none⟩ = some (.bool num) := by rw [← hw2, ← hY]; simp
          have y3 : w2.cell? ⟨Y, 3, none⟩ = some (.int .i64 lo) := by rw [← hw2, ← hY]; simp
          have y4 : w2.cell? ⟨Y, 4, none⟩ = some (.int .i64 hi) := by rw [← hw2, ← hY]; simp
          have x0 := (HX.out).c0
          have x1 := (HX.out).c1
          have x2 := (HX.out).c2
          have x3 := (HX.out).c3
          have x4 := (HX.out).c4
          have x5 := (HX.out).c5
          simp only [Nat.zero_add] at x0 x1 x2 x3 x4 x5
          clear hb1 hb12 HX0 HB0 z0 hw0 hX CF hXl
          go_wp2_with fail
          go_ret
          exact ⟨end_i64 HF.out, HB2.out⟩
        · rw [hc0] at CF
          simp only [Bool.not_true] at CF
          have hcn : (c != 0) = false := by simp [bne, hc0]
          go_enter Tryz.func110, Tryz.ntmps110
          go_wp2_with fail
          refine (CF.out _).mono ?_
          rintro e w1 ⟨rfl, hb1⟩
          obtain ⟨Y, hY⟩ : ∃ Y, w1.heap.size = Y := ⟨_, rfl⟩
          obtain ⟨w2, hw2⟩ : ∃ w2, w1.alloc (.cells #[.bool false, .int .i64 R, .bool num, .int .i64 lo, .int .i64 hi] 340 (0, 0)) = w2 := ⟨_, rfl⟩
          have hb12 : Below w1.heap.size w1 w2 := by rw [← hw2]; exact (Below.refl _ _).alloc (Nat.le_refl _) _
          have hXl : X < w1.heap.size := Nat.lt_of_lt_of_le HX0.out.lt hb1.size
          have HX := Lib.hid ((HX0.out.mono hb1 HX0.out.lt).mono hb12 hXl)
          have HB2 : Hid (Below w.heap.size w w2) := Lib.hid ((HB0.out.trans (hb1.mono HB0.out.size)).trans (hb12.mono (Nat.le_trans HB0.out.size hb1.size)))
          have y0 : w2.cell? ⟨Y, 0, none⟩ = some (.bool false) := by rw [← hw2, ← hY]; simp
          have y1 : w2.cell? ⟨Y, 1, none⟩ = some (.int .i64 R) := by rw [← hw2, ← hY]; simp
          have y2 : w2.cell? ⟨Y, 2, none⟩ = some (.bool num) := by rw [← hw2, ← hY]; simp
          have y3 : w2.cell? ⟨Y, 3, none⟩ = some (.int .i64 lo) := by rw [← hw2, ← hY]; simp
          have y4 : w2.cell? ⟨Y, 4, none⟩ = some (.int .i64 hi) := by rw [← hw2, ← hY]; simp
          have x0 := (HX.out).c0
          have x1 := (HX.out).c1
          have x2 := (HX.out).c2
          have x3 := (HX.out).c3
          have x4 := (HX.out).c4
          have x5 := (HX.out).c5
          simp only [Nat.zero_add] at x0 x1 x2 x3 x4 x5
          clear hb1 hb12 HX0 HB0 z0 hw0 hX CF hXl
          go_wp2_with fail
          go_ret
          exact ⟨end_i64 HF.out, HB2.out⟩
    · have HF := Lib.hid (HN0.out (by rw [HV.out]; simp [h1]))
      clear HV
      cases hc0 : c == 0
      · obtain rfl : cal = false := by rw [hc0] at h1; cases cal; rfl; exact absurd rfl h1
        clear h1
        have hcn : (c != 0) = true := by simp [bne, hc0]
        go_enter Tryz.func110, Tryz.ntmps110
        go_wp2_with fail
        refine (CF.out _).mono ?_
        rintro e w1 ⟨rfl, hb1⟩
        obtain ⟨Y, hY⟩ : ∃ Y, w1.heap.size = Y := ⟨_, rfl⟩
        obtain ⟨w2, hw2⟩ : ∃ w2, w1.alloc (.cells #[.bool false, .int .i64 R, .bool num, .int .i64 lo, .int .i64 hi] 340 (0, 0)) = w2 := ⟨_, rfl⟩
        have hb12 : Below w1.heap.size w1 w2 := by rw [← hw2]; exact (Below.refl _ _).alloc (Nat.le_refl _) _
        have hXl : X < w1.heap.size := Nat.lt_of_lt_of_le HX0.out.lt hb1.size
        have HX := Lib.hid ((HX0.out.mono hb1 HX0.out.lt).mono hb12 hXl)
        have HB2 : Hid (Below w.heap.size w w2) := Lib.hid ((HB0.out.trans (hb1.mono HB0.out.size)).trans (hb12.mono (Nat.le_trans HB0.out.size hb1.size)))
        have y0 : w2.cell? ⟨Y, 0, none⟩ = some (.bool false) := by rw [← hw2, ← hY]; simp
        have y1 : w2.cell? ⟨Y, 1, none⟩ = some (.int .i64 R) := by rw [← hw2, ← hY]; simp
        have y2 : w2.cell? ⟨Y, 2, none⟩ = some (.bool num) := by rw [← hw2, ← hY]; simp
        have y3 : w2.cell? ⟨Y, 3, none⟩ = some (.int .i64 lo) := by rw [← hw2, ← hY]; simp
        have y4 : w2.cell? ⟨Y, 4, none⟩ = some (.int .i64 hi) := by rw [← hw2, ← hY]; simp
        have x0 := (HX.out).c0
        have x1 := (HX.out).c1
        have x2 := (HX.out).c2
        have x3 := (HX.out).c3
        have x4 := (HX.out).c4
        have x5 := (HX.out).c5
        simp only [Nat.zero_add] at x0 x1 x2 x3 x4 x5
        clear hb1 hb12 HX0 HB0 z0 hw0 hX CF hXl
        go_wp2_with fail
        go_ret
        exact ⟨end_i64 HF.out, HB2.out⟩
      · obtain rfl : cal = true := by rw [hc0] at h1; cases cal; exact absurd rfl h1; rfl
        clear h1
        have hcn : (c != 0) = false := by simp [bne, hc0]
        go_enter Tryz.func110, Tryz.ntmps110
        go_wp2_with fail
        refine (CF.out _).mono ?_
        rintro e w1 ⟨rfl, hb1⟩
        obtain ⟨Y, hY⟩ : ∃ Y, w1.heap.size = Y := ⟨_, rfl⟩
        obtain ⟨w2, hw2⟩ : ∃ w2, w1.alloc (.cells #[.bool true, .int .i64 R, .bool num, .int .i64 lo, .int .i64 hi] 340 (0, 0)) = w2 := ⟨_, rfl⟩
        have hb12 : Below w1.heap.size w1 w2 := by rw [← hw2]; exact (Below.refl _ _).alloc (Nat.le_refl _) _
        have hXl : X < w1.heap.size := Nat.lt_of_lt_of_le HX0.out.lt hb1.size
        have HX := Lib.hid ((HX0.out.mono hb1 HX0.out.lt).mono hb12 hXl)
        have HB2 : Hid (Below w.heap.size w w2) := Lib.hid ((HB0.out.trans (hb1.mono HB0.out.size)).trans (hb12.mono (Nat.le_trans HB0.out.size hb1.size)))
        have y0 : w2.cell? ⟨Y, 0, none⟩ = some (.bool true) := by rw [← hw2, ← hY]; simp
        have y1 : w2.cell? ⟨Y, 1, none⟩ = some (.int .i64 R) := by rw [← hw2, ← hY]; simp
        have y2 : w2.cell? ⟨Y, 2, none⟩ = some (.bool num) := by rw [← hw2, ← hY]; simp
        have y3 : w2.cell? ⟨Y, 3, none⟩ = some (.int .i64 lo) := by rw [← hw2, ← hY]; simp
        have y4 : w2.cell? ⟨Y, 4, none⟩ = some (.int .i64 hi) := by rw [← hw2, ← hY]; simp
        have x0 := (HX.out).c0
        have x1 := (HX.out).c1
        have x2 := (HX.out).c2
        have x3 := (HX.out).c3
        have x4 := (HX.out).c4
        have x5 := (HX.out).c5
        simp only [Nat.zero_add] at x0 x1 x2 x3 x4 x5
        clear hb1 hb12 HX0 HB0 z0 hw0 hX CF hXl
        go_wp2_with fail
        go_ret
        exact ⟨end_i64 HF.out, HB2.out⟩
end Go.Proofs.YtkkcngppmhebbaaGreatDoor
