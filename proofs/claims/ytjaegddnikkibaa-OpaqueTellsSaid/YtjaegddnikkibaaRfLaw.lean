/-
  The second reference's lawful, walked.
-/
import Derived.Test.YtjaegddnikkibaaRfMakes
set_option linter.unusedVariables false
set_option linter.unusedSimpArgs false
namespace Go.Proofs.Ytjaegddnikkibaa
open Go.RowKit Go.Sort

def otherA (y : Att) (at_ : Int) (x : Att) : Bool := decide (x.th ≠ y.th) && makesB x at_
def goodA (y : Att) (at_ : Int) (x : Att) : Bool := otherA y at_ x && (decide (x.kd = 1) && decide (x.pl ≤ y.ck))
theorem lawfulA (l : List Att) (y : Att) (at_ : Int) : lawfulV l y at_ = (!l.any (otherA y at_) || l.any (goodA y at_)) := by
  rw [Bool.or_comm]; rfl
theorem any_takeA {p : Att → Bool} {l : List Att} {k : Nat} (h : k < l.length) : (l.take (k + 1)).any p = ((l.take k).any p || p l[k]) := by
  rw [List.take_succ_eq_append_getElem h, List.any_append]; simp

set_option maxHeartbeats 4000000 in
set_option maxRecDepth 100000 in
theorem rfLawful_any (A : Option Addr) (c : Nat) (l : List Att) (yth ykd ybg yen yck ypl : Int) (ywt : Bool) (ydv : Value) (ydA : Option Addr) (ydc : Nat) (yevs : List Ev) (at_ : Int) (B : Nat) (hn : l.length ≤ 1048576) (he : ∀ x ∈ l, x.evs.length ≤ 1048576 ∧ ∀ e ∈ x.evs, ∃ t, evB t e = true) (h0 : 0 ≤ at_) (h1 : at_ < 262144) (w : World) (ha : AttsAt w B A l) (hB : B ≤ w.heap.size) :
    Calls Try.prog 54 #[.slice A l.length c, .agg #[.int .i64 yth, .int .u8 ykd, .int .i64 ybg, .int .i64 yen, .int .i64 yck, .int .i64 ypl, .bool ywt, ydv], .int .i64 at_] w fun e w' => e = .returned (.bool (lawfulV l ⟨yth, ykd, ybg, yen, yck, ypl, ywt, ydA, ydc, yevs⟩ at_)) ∧ Below w.heap.size w w' := by
  have HA := Lib.hid (fun W (h : Below w.heap.size w W) => ha.keep (h.mono hB) (Nat.le_refl _))
  have HE := Lib.hid he
  rw [lawfulA]
  obtain ⟨y, hy⟩ : ∃ y : Att, (⟨yth, ykd, ybg, yen, yck, ypl, ywt, ydA, ydc, yevs⟩ : Att) = y := ⟨_, rfl⟩
  rw [hy]
  have HO : Hid (∀ x, otherA y at_ x = (decide (x.th ≠ yth) && makesB x at_)) := Lib.hid (fun x => by rw [← hy]; rfl)
  have HG : Hid (∀ x, goodA y at_ x = (otherA y at_ x && (decide (x.kd = 1) && decide (x.pl ≤ yck)))) := Lib.hid (fun x => by rw [← hy]; rfl)
  have HS0 : Hid (false = (l.take 0).any (otherA y at_)) := Lib.hid (by simp)
  have HG0 : Hid (false = (l.take 0).any (goodA y at_)) := Lib.hid (by simp)
  clear ha he hy
  obtain ⟨X, hX⟩ : ∃ X, w.heap.size = X := ⟨_, rfl⟩
  obtain ⟨w0, hw0⟩ : ∃ w0, w.alloc (.cells #[.int .i64 yth, .int .u8 ykd, .int .i64 ybg, .int .i64 yen, .int .i64 yck, .int .i64 ypl, .bool ywt, ydv] 35 (0, 0)) = w0 := ⟨_, rfl⟩
  have HB0 : Hid (Below w.heap.size w w0) := Lib.hid (by rw [← hw0]; exact (Below.refl _ _).alloc (Nat.le_refl _) _)
  have a0 : w0.cell? ⟨X, 0, none⟩ = some (.int .i64 yth) := by rw [← hw0, ← hX]; simp
  have a4 : w0.cell? ⟨X, 4, none⟩ = some (.int .i64 yck) := by rw [← hw0, ← hX]; simp
  have hXl : X < w0.heap.size := by rw [← hw0, ← hX]; simp
  have HD := Lib.hid (fun W (h : Below w0.heap.size w0 W) => (⟨(h.cell (p := ⟨X, 0, none⟩) hXl).trans a0, (h.cell (p := ⟨X, 4, none⟩) hXl).trans a4⟩ : W.cell? ⟨X, 0, none⟩ = some (.int .i64 yth) ∧ W.cell? ⟨X, 4, none⟩ = some (.int .i64 yck)))
  have HBW := Lib.hid (fun W (h : Below w0.heap.size w0 W) => HB0.out.trans (h.mono HB0.out.size))
  clear hXl
  go_enter Try.func54, Try.ntmps54
  go_wp2_with fail
  clear hw0 hX a0 a4
  go_loopw [7, 8, 9] (fun u v i wr => ∃ (k : Nat) (sm gd : Bool), i = .int .i64 k ∧ u = .bool sm ∧ v = .bool gd ∧ k ≤ l.length ∧ Hid (sm = (l.take k).any (otherA y at_)) ∧ Hid (gd = (l.take k).any (goodA y at_)) ∧ Hid (Below w0.heap.size w0 wr)) (fun _ _ i _ => l.length - (intOf i).toNat)
  case atStart => exact ⟨0, false, false, rfl, rfl, rfl, Nat.zero_le _, HS0, HG0, Lib.hid (Below.refl _ _)⟩
  case round =>
    clear HS0 HG0
    obtain ⟨k, sm, gd, rfl, rfl, rfl, hk, hS, hG, hW⟩ := hrel
    by_cases hlt : k < l.length
    · obtain ⟨b, off, rfl, hbl, hc⟩ := (HA.out _ (HBW.out _ hW.out)).row (by rintro rfl; simp at hlt)
      obtain ⟨c0, c1, c2, c3, c4, c5, c6, c7⟩ := hc k _ (List.getElem?_eq_getElem hlt)
      have hst1 := Lib.hid (any_takeA (p := otherA y at_) hlt)
      have hst2 := Lib.hid (any_takeA (p := goodA y at_) hlt)
      have ho := Lib.hid (HO.out l[k])
      have hg := Lib.hid (HG.out l[k])
      have HEV := Lib.hid (fun W (h : Below w0.heap.size w0 W) => (HA.out W (HBW.out W h)).evs _ (List.getElem_mem hlt))
      obtain ⟨hx1, hx2⟩ := HE.out _ (List.getElem_mem hlt)
      have HX2 := Lib.hid hx2
      have q2 : (0 : Int) ≤ (k : Int) := Int.natCast_nonneg _
      have q3 : (k : Int) < (l.length : Int) := by omega
      have hE0 := Lib.hid (fun o => hW.out.alloc hW.out.size o)
      clear hc hx2
      generalize l[k] = x at *
      obtain ⟨th, kd, bg, en, ck, pl, wt, dA, dc, evs⟩ := x
      dsimp only at *
      obtain ⟨w1, hw1⟩ : ∃ w1, wr.alloc (.cells #[.int .i64 th, .int .u8 kd, .int .i64 bg, .int .i64 en, .int .i64 ck, .int .i64 pl, .bool wt, .slice dA evs.length dc] 35 (0, 0)) = w1 := ⟨_, rfl⟩
      obtain ⟨Y, hY⟩ : ∃ Y, wr.heap.size = Y := ⟨_, rfl⟩
      have HX0 : Hid (AttAt w1 Y 0 ⟨th, kd, bg, en, ck, pl, wt, dA, dc, evs⟩) := Lib.hid (by rw [← hw1, ← hY]; constructor <;> simp)
      have hYl : Y < w1.heap.size := by rw [← hw1, ← hY]; simp
      have hE : Hid (Below w0.heap.size w0 w1) := Lib.hid (by rw [← hw1]; exact hE0.out _)
      have HDX := Lib.hid (fun W (h : Below w1.heap.size w1 W) => HX0.out.keep fun o' => h.cell (p := ⟨Y, o', none⟩) hYl)
      have HWW := Lib.hid (fun W (h : Below w1.heap.size w1 W) => hE.out.trans (h.mono hE.out.size))
      obtain ⟨z0, z4⟩ := HD.out _ hE.out
      obtain ⟨a0, a1, a2, a3, a4, a5, a6, a7⟩ := HX0.out
      simp only [Nat.zero_add] at a0 a1 a2 a3 a4 a5 a6 a7
      clear HX0 hE0 hYl
      by_cases hth : th = yth
      · have t1 : decide (th = yth) = true := by simpa using hth
        have t2 : (th == yth) = true := by simpa using hth
        have t3 : (th != yth) = false := by simpa using hth
        have hS : Hid (sm = (l.take (k + 1)).any (otherA y at_)) := Lib.hid (by rw [hst1.out, ho.out, ← hS.out]; simp [hth])
        have hG : Hid (gd = (l.take (k + 1)).any (goodA y at_)) := Lib.hid (by rw [hst2.out, hg.out, ho.out, ← hG.out]; simp [hth])
        clear hst1 hst2 ho hg hW hth
        go_wp2_with fail
        go_roundw
        case rel => exact ⟨k + 1, sm, gd, by go_num, rfl, rfl, by omega, hS, hG, hE⟩
        case measure => simp [intOf]; omega
      · have t1 : decide (th = yth) = false := by simpa using hth
        have t2 : (th == yth) = false := by simpa using hth
        have t3 : (th != yth) = true := by simpa using hth
        have hMK := Lib.hid (makes_any th kd bg en ck pl wt dA dc evs B evs.length at_ hx1 (Nat.le_refl _) HX2.out h0 h1 w1 (HEV.out _ hE.out) (Nat.le_trans hB (HBW.out _ hE.out).size))
        have hmk : (evs.take evs.length).any (evMakes at_) = makesB ⟨th, kd, bg, en, ck, pl, wt, dA, dc, evs⟩ at_ := by rw [List.take_length]; rfl
        rw [hmk] at hMK
        generalize makesB ⟨th, kd, bg, en, ck, pl, wt, dA, dc, evs⟩ at_ = mb at *
        clear hmk
        cases mb
        · have hS : Hid (sm = (l.take (k + 1)).any (otherA y at_)) := Lib.hid (by rw [hst1.out, ho.out, ← hS.out]; simp)
          have hG : Hid (gd = (l.take (k + 1)).any (goodA y at_)) := Lib.hid (by rw [hst2.out, hg.out, ho.out, ← hG.out]; simp)
          clear hst1 hst2 ho hg hW hth
          go_wp2_with fail
          refine hMK.out.mono ?_
          rintro e w2 ⟨rfl, hb⟩
          have hE2 := Lib.hid (HWW.out _ hb)
          clear hb hMK
          go_wp2_with fail
          go_roundw
          case rel => exact ⟨k + 1, sm, gd, by go_num, rfl, rfl, by omega, hS, hG, hE2⟩
          case measure => simp [intOf]; omega
        · have hS : Hid (true = (l.take (k + 1)).any (otherA y at_)) := Lib.hid (by rw [hst1.out, ho.out]; simp [hth])
          go_wp2_with fail
          refine hMK.out.mono ?_
          rintro e w2 ⟨rfl, hb⟩
          have hE2 := Lib.hid (HWW.out _ hb)
          obtain ⟨y0, y4⟩ := HD.out _ hE2.out
          obtain ⟨b0, b1, b2, b3, b4, b5, b6, b7⟩ := HDX.out _ hb
          simp only [Nat.zero_add] at b0 b1 b2 b3 b4 b5 b6 b7
          clear hb hMK hst1
          cases gd
          · by_cases g1 : kd = 1
            · have r1 : decide (kd = 1) = true := by simpa using g1
              have r2 : (kd == 1) = true := by simpa using g1
              by_cases g2 : pl ≤ yck
              · have r3 : decide (pl ≤ yck) = true := by simpa using g2
                have hG : Hid (true = (l.take (k + 1)).any (goodA y at_)) := Lib.hid (by rw [hst2.out, hg.out, ho.out]; simp [hth, g1, g2])
                clear hst2 ho hg hW hth g1 g2
                go_wp2_with fail
                go_roundw
                case rel => exact ⟨k + 1, true, true, by go_num, rfl, rfl, by omega, hS, hG, hE2⟩
                case measure => simp [intOf]; omega
              · have r3 : decide (pl ≤ yck) = false := by simpa using g2
                have hG : Hid (false = (l.take (k + 1)).any (goodA y at_)) := Lib.hid (by rw [hst2.out, hg.out, ho.out, ← hG.out]; simp [g2])
                clear hst2 ho hg hW hth g1 g2
                go_wp2_with fail
                go_roundw
                case rel => exact ⟨k + 1, true, false, by go_num, rfl, rfl, by omega, hS, hG, hE2⟩
                case measure => simp [intOf]; omega
            · have r1 : decide (kd = 1) = false := by simpa using g1
              have r2 : (kd == 1) = false := by simpa using g1
              have hG : Hid (false = (l.take (k + 1)).any (goodA y at_)) := Lib.hid (by rw [hst2.out, hg.out, ho.out, ← hG.out]; simp [g1])
              clear hst2 ho hg hW hth g1
              go_wp2_with fail
              go_roundw
              case rel => exact ⟨k + 1, true, false, by go_num, rfl, rfl, by omega, hS, hG, hE2⟩
              case measure => simp [intOf]; omega
          · have hG : Hid (true = (l.take (k + 1)).any (goodA y at_)) := Lib.hid (by rw [hst2.out, ← hG.out]; simp)
            clear hst2 ho hg hW hth
            go_wp2_with fail
            go_roundw
            case rel => exact ⟨k + 1, true, true, by go_num, rfl, rfl, by omega, hS, hG, hE2⟩
            case measure => simp [intOf]; omega
    · have hkl : k = l.length := by omega
      have hF1 : Hid (sm = l.any (otherA y at_)) := Lib.hid (by rw [hS.out, hkl, List.take_length])
      have hF2 : Hid (gd = l.any (goodA y at_)) := Lib.hid (by rw [hG.out, hkl, List.take_length])
      have hE := Lib.hid (HBW.out _ hW.out)
      clear hkl hW hS hG
      cases sm
      · go_wp2_with fail
        go_ret
        exact ⟨by rw [← hF1.out]; first | done | rfl, hE.out⟩
      · go_wp2_with fail
        go_ret
        exact ⟨by rw [← hF1.out, ← hF2.out]; first | done | rfl | simp, hE.out⟩
end Go.Proofs.Ytjaegddnikkibaa
