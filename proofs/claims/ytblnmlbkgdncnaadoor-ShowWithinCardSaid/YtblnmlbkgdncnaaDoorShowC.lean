/-
  show: does a text begin with a digit; is an operand signed; an expression in brackets.
-/
import Derived.Test.YtblnmlbkgdncnaaDoorShowB
import Derived.Test.YtblnmlbkgdncnaaDoorTreeH
set_option linter.unusedVariables false
set_option linter.unusedSimpArgs false
namespace Go.Proofs.YtblnmlbkgdncnaaDoor
open Go.RowKit

theorem least {P : Ex → Prop} : ∀ (n : Nat) (y : Ex), P y → exCount y ≤ n → ∃ y, P y ∧ ∀ z, P z → exCount y ≤ exCount z
  | 0, y, _, hn => by have := exCount_pos y; omega
  | n + 1, y, hy, hn => by
    by_cases h : ∃ z, P z ∧ exCount z < exCount y
    · obtain ⟨z, hz, hlt⟩ := h
      exact least n z hz (by omega)
    · exact ⟨y, hy, fun z hz => by
        rcases Nat.lt_or_ge (exCount z) (exCount y) with h1 | h1
        · exact absurd ⟨z, hz, h1⟩ h
        · exact h1⟩
theorem least_of {P : Ex → Prop} (h : ∃ y, P y) : ∃ y, P y ∧ ∀ z, P z → exCount y ≤ exCount z := by
  obtain ⟨y, hy⟩ := h
  exact least _ y hy (Nat.le_refl _)
open Classical in
/-- the least size of what is held -/
noncomputable def msr (P : Ex → Prop) : Nat := if h : ∃ y, P y then exCount (Classical.choose (least_of h)) else 0
theorem msr_at {P : Ex → Prop} (h : ∃ y, P y) : ∃ y, P y ∧ exCount y = msr P := by
  unfold msr
  rw [dif_pos h]
  exact ⟨_, (Classical.choose_spec (least_of h)).1, rfl⟩
theorem msr_le {P : Ex → Prop} {y : Ex} (h : P y) : msr P ≤ exCount y := by
  unfold msr
  rw [dif_pos ⟨y, h⟩]
  exact (Classical.choose_spec (least_of ⟨y, h⟩)).2 y h

/-- what the box of a digit's search holds -/
structure DgAt (X B : Nat) (w : World) (R : Bool) (y : Ex) (W : World) : Prop where
  row : W.heap[X]? = some (exObj y)
  inn : ExIn w B y
  good : ExGood y
  dig : digEx y = R
theorem exObj_ne (x : Ex) : ∀ cs fz, exObj x ≠ .cells cs 5 fz := fun cs fz e => by injection e with _ e; exact absurd e (by decide)
theorem exCount_lt {k n : Int} {nm : List UInt8} {t : Ty} {d : Hd} {y : Ex} {r : List Ex} : exCount y < exCount (.mk k n nm t d (y :: r)) := by
  rw [exCount, exCounts]; omega

set_option maxHeartbeats 4000000 in
set_option maxRecDepth 100000 in
theorem sdigit_any (B : Nat) (x : Ex) (w : World) (hI : ExIn w B x) (hg : ExGood x) (hB : B ≤ w.heap.size) :
    Calls Tryd.prog 43 #[x.val] w fun e w' => e = .returned (.bool (digEx x)) ∧ Below w.heap.size w w' := by
  obtain ⟨R, hR⟩ : ∃ R, digEx x = R := ⟨_, rfl⟩
  rw [hR]
  obtain ⟨X, hX⟩ : ∃ X, w.heap.size = X := ⟨_, rfl⟩
  obtain ⟨w1, hw1⟩ : ∃ w1, w.alloc (exObj x) = w1 := ⟨_, rfl⟩
  have hb1 : Below w.heap.size w w1 := by rw [← hw1]; exact (Below.refl _ _).alloc (Nat.le_refl _) _
  have x1 : w1.heap[X]? = some (exObj x) := by rw [← hw1, ← hX]; exact heap_alloc_new w _
  have HP1 : Hid (∃ y, DgAt X B w R y w1) := Lib.hid ⟨x, x1, hI, hg, hR⟩
  have HB1 := Lib.hid hb1
  have HN := Lib.hid (And.intro hX hw1)
  have HBX : Hid (B ≤ X) := Lib.hid (by omega)
  clear hX hw1 hb1 x1 hI hg hR hB
  go_enter Tryd.func43, Tryd.ntmps43
  go_wp2_with fail
  simp only [HN.out.1, HN.out.2]
  go_loopw [] (fun wr => Hid (∃ y, DgAt X B w R y wr) ∧ Hid (Below X w wr)) (fun wr => msr (fun y => DgAt X B w R y wr))
  case atStart => exact ⟨HP1, by rw [HN.out.1] at HB1; exact HB1⟩
  case round =>
    obtain ⟨hP, hB⟩ := hrel
    obtain ⟨y, hy, hm⟩ := msr_at hP.out
    have HM := Lib.hid hm
    obtain ⟨yk, yn, ynm, yt, yd, yargs⟩ := y
    have row := hy.row
    have q0 := cell_at row 0
    have q1 := cell_at row 1
    have q6 := cell_at row 6
    simp only [List.getElem?_toArray, List.getElem?_cons_zero, List.getElem?_cons_succ] at q0 q1 q6
    dsimp only [exObj, Ex.k, Ex.n, Ex.nm, Ex.t, Ex.d, Ex.args] at q0 q1 q6
    have HY := Lib.hid hy
    clear hP HP1 HB1 row hy hm
    by_cases h45 : yk = 4 ∨ yk = 5
    · obtain ⟨z, r, rfl⟩ : ∃ z r, yargs = z :: r := by
        have h := HY.out.good.len
        dsimp only [Ex.k, Ex.args] at h
        cases yargs with
        | nil =>
          have h1 := h.1
          have h2 := h.2
          simp at h1 h2
          omega
        | cons z r => exact ⟨z, r, rfl⟩
      have hIr := HY.out.inn.keep (hB.out.mono HBX.out) (Nat.le_refl B)
      obtain ⟨rb, ro, hda, hrb, hrow⟩ := hIr.row (by simp [Ex.args])
      have hza := hrow 0 z rfl
      have hzI := HY.out.inn.sub z (by simp [Ex.args])
      have hzG := HY.out.good.sub z (by simp [Ex.args])
      have hzD : digEx z = R := by rw [← HY.out.dig, sdig_eq h45]
      have hzc : exCount z < msr (fun y => DgAt X B w R y wr) := by rw [← HM.out]; exact exCount_lt
      have hda2 : yd.a = some ⟨rb, ro, none⟩ := hda
      obtain ⟨zk, zn, znm, zt, zd, zargs⟩ := z
      obtain ⟨z0, z1, z2, z3, z4, z5, z6⟩ := hza
      dsimp only [Ex.k, Ex.n, Ex.nm, Ex.t, Ex.d, Ex.args] at z0 z1 z2 z3 z4 z5 z6
      rw [Nat.zero_mul, Nat.add_zero] at z0 z1 z2 z3 z4 z5 z6
      have row := HY.out.row
      have f0 := frz_at row 0
      have f1 := frz_at row 1
      have f2 := frz_at row 2
      have f3 := frz_at row 3
      have f4 := frz_at row 4
      have f5 := frz_at row 5
      have f6 := frz_at row 6
      have q2 := cell_at row 2
      have q3 := cell_at row 3
      have q4 := cell_at row 4
      have q5 := cell_at row 5
      simp only [List.getElem?_toArray, List.getElem?_cons_zero, List.getElem?_cons_succ] at q2 q3 q4 q5
      dsimp only [exObj, Ex.k, Ex.n, Ex.nm, Ex.t, Ex.d, Ex.args] at q2 q3 q4 q5
      have HS7 : Hid ((((((((wr.setCell ⟨X, 0, none⟩ (.int .u8 zk)).setCell ⟨X, 1, none⟩ (.int .i64 zn)).setCell ⟨X, 2, none⟩ (.string ⟨znm.toArray⟩)).setCell ⟨X, 3, none⟩ (.int .u8 zt.k)).setCell ⟨X, 4, none⟩ (.string ⟨zt.nm.toArray⟩)).setCell ⟨X, 5, none⟩ (.int .i64 zt.n)).setCell ⟨X, 6, none⟩ (.slice zd.a zargs.length zd.c)).heap[X]? = some (exObj (.mk zk zn znm zt zd zargs)) ∧ Below X w (((((((wr.setCell ⟨X, 0, none⟩ (.int .u8 zk)).setCell ⟨X, 1, none⟩ (.int .i64 zn)).setCell ⟨X, 2, none⟩ (.string ⟨znm.toArray⟩)).setCell ⟨X, 3, none⟩ (.int .u8 zt.k)).setCell ⟨X, 4, none⟩ (.string ⟨zt.nm.toArray⟩)).setCell ⟨X, 5, none⟩ (.int .i64 zt.n)).setCell ⟨X, 6, none⟩ (.slice zd.a zargs.length zd.c))) := Lib.hid ⟨by
        have h := (row_set (row_set (row_set (row_set (row_set (row_set (row_set row 0 (.int .u8 zk)) 1 (.int .i64 zn)) 2 (.string ⟨znm.toArray⟩)) 3 (.int .u8 zt.k)) 4 (.string ⟨zt.nm.toArray⟩)) 5 (.int .i64 zt.n)) 6 (.slice zd.a zargs.length zd.c))
        simpa [exObj, Ex.k, Ex.n, Ex.nm, Ex.t, Ex.d, Ex.args] using h, (((((((hB.out.setCell (p := ⟨X, 0, none⟩) (Nat.le_refl _) _).setCell (p := ⟨X, 1, none⟩) (Nat.le_refl _) _).setCell (p := ⟨X, 2, none⟩) (Nat.le_refl _) _).setCell (p := ⟨X, 3, none⟩) (Nat.le_refl _) _).setCell (p := ⟨X, 4, none⟩) (Nat.le_refl _) _).setCell (p := ⟨X, 5, none⟩) (Nat.le_refl _) _).setCell (p := ⟨X, 6, none⟩) (Nat.le_refl _) _)⟩
      have HZs := Lib.hid (And.intro hzI (And.intro hzG (And.intro hzD hzc)))
      have hlt : (0 : Int) < (((.mk zk zn znm zt zd zargs) :: r : List Ex).length : Int) := by simp
      rw [hda2] at q6
      clear hIr hda hda2 hrow hzI hzG hzD hzc row hrb
      rcases h45 with rfl | rfl
      all_goals
        go_wp2_with fail
        go_roundw
        case rel => exact ⟨Lib.hid ⟨.mk zk zn znm zt zd zargs, HS7.out.1, HZs.out.1, HZs.out.2.1, HZs.out.2.2.1⟩, Lib.hid HS7.out.2⟩
        case measure => exact Nat.lt_of_le_of_lt (msr_le (y := .mk zk zn znm zt zd zargs) ⟨HS7.out.1, HZs.out.1, HZs.out.2.1, HZs.out.2.2.1⟩) HZs.out.2.2.2
    · have d4 : (yk == 4) = false := by simp; omega
      have d5 : (yk == 5) = false := by simp; omega
      have HD : Hid ((decide (yk = 1) && decide (0 ≤ yn)) = R) := Lib.hid (by have h := HY.out.dig; rw [digEx, if_neg h45] at h; exact h)
      have HZ : Hid (Below w.heap.size w wr) := Lib.hid (by rw [HN.out.1]; exact hB.out)
      by_cases h1 : yk = 1
      · subst h1
        go_wp2_with fail
        go_ret
        exact ⟨ret_bool (by rw [← HD.out]; simp), HZ.out⟩
      · have d1 : (yk == 1) = false := by simpa using h1
        go_wp2_with fail
        go_ret
        exact ⟨ret_bool (by rw [← HD.out]; simp [h1]), HZ.out⟩

set_option maxHeartbeats 4000000 in
theorem ssigned_any (x : Ex) (w : World) :
    Calls Tryd.prog 39 #[x.val] w fun e w' => e = .returned (.bool (sgnB x.k)) ∧ Below w.heap.size w w' := by
  obtain ⟨k, n, nm, t, d, args⟩ := x
  dsimp only [Ex.val, Ex.k, Ex.n, Ex.nm, Ex.t, Ex.d, Ex.args]
  obtain ⟨R, hR⟩ : ∃ R, sgnB k = R := ⟨_, rfl⟩
  rw [hR]
  have HR := Lib.hid hR
  have CB := Lib.hid (fun W => binary_any k W)
  have HB : Hid (∀ o, Below w.heap.size w (w.alloc o)) := Lib.hid fun o => (Below.refl _ _).alloc (Nat.le_refl _) o
  clear hR
  cases hb : binB k with
  | true =>
    rw [hb] at CB
    obtain rfl : true = R := by rw [← HR.out]; simp [sgnB, hb]
    clear hb
    go_enter Tryd.func39, Tryd.ntmps39
    go_wp2_with (go_at_call 40; with_reducible refine (CB.out _).mono ?_; rintro e w1 ⟨rfl, rfl⟩)
    go_ret
    exact ⟨rfl, HB.out _⟩
  | false =>
    rw [hb] at CB
    by_cases h8 : k = 8
    · obtain rfl : true = R := by rw [← HR.out]; simp [sgnB, h8]
      have d8 : (k == 8) = true := by simpa using h8
      clear hb h8
      go_enter Tryd.func39, Tryd.ntmps39
      go_wp2_with (go_at_call 40; with_reducible refine (CB.out _).mono ?_; rintro e w1 ⟨rfl, rfl⟩)
      go_ret
      exact ⟨rfl, HB.out _⟩
    · have d8 : (k == 8) = false := by simpa using h8
      obtain rfl : decide (k = 9) = R := by rw [← HR.out]; simp [sgnB, h8, hb]
      clear hb h8
      go_enter Tryd.func39, Tryd.ntmps39
      go_wp2_with (go_at_call 40; with_reducible refine (CB.out _).mono ?_; rintro e w1 ⟨rfl, rfl⟩)
      go_ret
      exact ⟨ret_bool (by by_cases h9 : k = 9 <;> simp [h9]), HB.out _⟩

/-- an expression is written behind what is held -/
def ExprC (Bb : Nat) (wB : World) (y : Ex) : Prop := ∀ (t : List UInt8) (W : World), TxSt Bb wB t W → t.length + (exText y).length ≤ 140737488355328 →
  Calls Tryd.prog 23 #[.pointer (some ⟨Bb, 0, none⟩), y.val] W fun e w' => e = .returned (.tuple #[]) ∧ TxOut Bb wB (t ++ exText y) W w'

set_option maxHeartbeats 4000000 in
theorem swithin_of (Bb : Nat) (wB : World) (y : Ex) (b : Bool) (CE : ExprC Bb wB y) (t : List UInt8) (W : World) (h : TxSt Bb wB t W) (hl : t.length + (brB b (exText y)).length ≤ 140737488355328) :
    Calls Tryd.prog 42 #[.pointer (some ⟨Bb, 0, none⟩), y.val, .bool b] W fun e w' => e = .returned (.tuple #[]) ∧ TxOut Bb wB (t ++ brB b (exText y)) W w' := by
  obtain ⟨X, hX⟩ : ∃ X, W.heap.size = X := ⟨_, rfl⟩
  obtain ⟨w1, hw1⟩ : ∃ w1, W.alloc (exObj y) = w1 := ⟨_, rfl⟩
  have hb1 : Below W.heap.size W w1 := by rw [← hw1]; exact (Below.refl _ _).alloc (Nat.le_refl _) _
  have x1 : w1.heap[X]? = some (exObj y) := by rw [← hw1, ← hX]; exact heap_alloc_new W _
  have hXB : X ≠ Bb := by have := h.lt; omega
  have O1 := Lib.hid (TxOut.refl (h.keep hb1))
  have HW0 : Hid (Stay Bb W w1) := Lib.hid (.of hb1)
  have HRow : Hid (∀ W', Stay Bb w1 W' → W'.heap[X]? = some (exObj y)) := Lib.hid fun W' hs => hs X _ x1 hXB (exObj_ne _)
  have HN := Lib.hid (And.intro hX hw1)
  have HC := Lib.hid CE
  have HL := Lib.hid hl
  obtain ⟨s, hs⟩ : ∃ s, exText y = s := ⟨_, rfl⟩
  have HE := Lib.hid hs
  rw [hs] at HL ⊢
  clear hX hw1 hb1 x1 hXB h CE hl hs
  cases b with
  | false =>
    have row := HRow.out _ (Stay.refl _ _)
    have q0 := cell_at row 0
    have q1 := cell_at row 1
    have q2 := cell_at row 2
    have q3 := cell_at row 3
    have q4 := cell_at row 4
    have q5 := cell_at row 5
    have q6 := cell_at row 6
    simp only [List.getElem?_toArray, List.getElem?_cons_zero, List.getElem?_cons_succ] at q0 q1 q2 q3 q4 q5 q6
    clear row
    go_enter Tryd.func42, Tryd.ntmps42
    go_wp2_with fail
    simp only [HN.out.1, HN.out.2]
    refine (HC.out t w1 O1.out.st (by rw [HE.out]; exact HL.out)).mono ?_
    rintro e w2 ⟨rfl, hO2⟩
    rw [HE.out] at hO2
    have O2 := Lib.hid (O1.out.trans hO2)
    clear hO2 q0 q1 q2 q3 q4 q5 q6
    go_wp2_with fail
    go_end0
    exact ⟨rfl, O2.out.st, HW0.out.trans O2.out.stay⟩
  | true =>
    have HLt : Hid (t.length + (s.length + 2) ≤ 140737488355328) := Lib.hid (by have := HL.out; simpa [brB] using this)
    go_enter Tryd.func42, Tryd.ntmps42
    go_wp2_with fail
    simp only [HN.out.1, HN.out.2]
    refine (put_any' Bb wB t [40] _ rfl w1 O1.out.st (by have := HLt.out; simp; omega)).mono ?_
    rintro e w2 ⟨rfl, hO2⟩
    have O2 := Lib.hid (O1.out.trans hO2)
    clear hO2
    have row := HRow.out _ O2.out.stay
    have q0 := cell_at row 0
    have q1 := cell_at row 1
    have q2 := cell_at row 2
    have q3 := cell_at row 3
    have q4 := cell_at row 4
    have q5 := cell_at row 5
    have q6 := cell_at row 6
    simp only [List.getElem?_toArray, List.getElem?_cons_zero, List.getElem?_cons_succ] at q0 q1 q2 q3 q4 q5 q6
    clear row
    go_wp2_with fail
    refine (HC.out (t ++ [40]) w2 O2.out.st (by rw [HE.out]; have := HLt.out; simp; omega)).mono ?_
    rintro e w3 ⟨rfl, hO3⟩
    rw [HE.out] at hO3
    have O3 := Lib.hid (O2.out.trans hO3)
    clear hO3 q0 q1 q2 q3 q4 q5 q6
    go_wp2_with fail
    refine (put_any' Bb wB (t ++ [40] ++ s) [41] _ rfl w3 O3.out.st (by have := HLt.out; simp; omega)).mono ?_
    rintro e w4 ⟨rfl, hO4⟩
    have O4 := Lib.hid ((O3.out.trans hO4).eq (show t ++ [40] ++ s ++ [41] = t ++ brB true s by simp [brB]))
    clear hO4
    go_wp2_with fail
    go_end0
    exact ⟨rfl, O4.out.st, HW0.out.trans O4.out.stay⟩
end Go.Proofs.YtblnmlbkgdncnaaDoor
