/-
  The second reference's makes, walked.
-/
import Derived.Test.YtjaegddnikkibaaRfMayAll
import Derived.Test.YtjaegddnikkibaaOwnPlain
set_option linter.unusedVariables false
set_option linter.unusedSimpArgs false
namespace Go.Proofs.Ytjaegddnikkibaa
open Go.RowKit Go.Sort

theorem any_take {p : Ev → Bool} {l : List Ev} {k : Nat} (h : k < l.length) : (l.take (k + 1)).any p = ((l.take k).any p || p l[k]) := by
  rw [List.take_succ_eq_append_getElem h, List.any_append]; simp
theorem any_take_mono {p : Ev → Bool} {l : List Ev} {k m : Nat} (h : k < l.length) (hm : k < m) (hp : p l[k] = true) : (l.take m).any p = true :=
  List.any_eq_true.2 ⟨l[k], by rw [List.mem_iff_getElem]; exact ⟨k, by rw [List.length_take]; omega, by rw [List.getElem_take]⟩, hp⟩

set_option maxHeartbeats 4000000 in
set_option maxRecDepth 100000 in
theorem makes_any (th kd bg en ck pl : Int) (wt : Bool) (dA : Option Addr) (dc : Nat) (evs : List Ev) (B first : Nat) (at_ : Int) (hn : evs.length ≤ 1048576) (hf : first ≤ evs.length) (he : ∀ e ∈ evs, ∃ t, evB t e = true) (h0 : 0 ≤ at_) (h1 : at_ < 262144) (w : World) (ha : EvsAt w B dA evs) (hB : B ≤ w.heap.size) :
    Calls Try.prog 69 #[.agg #[.int .i64 th, .int .u8 kd, .int .i64 bg, .int .i64 en, .int .i64 ck, .int .i64 pl, .bool wt, .slice dA evs.length dc], .int .i64 first, .int .i64 at_] w fun e w' => e = .returned (.bool ((evs.take first).any (evMakes at_))) ∧ Below w.heap.size w w' := by
  have HA := Lib.hid ha
  have HE := Lib.hid he
  obtain ⟨R, hR⟩ : ∃ R, (evs.take first).any (evMakes at_) = R := ⟨_, rfl⟩
  rw [hR]
  have HR := Lib.hid hR
  clear ha he hR
  obtain ⟨X, hX⟩ : ∃ X, w.heap.size = X := ⟨_, rfl⟩
  obtain ⟨w0, hw0⟩ : ∃ w0, w.alloc (.cells #[.int .i64 th, .int .u8 kd, .int .i64 bg, .int .i64 en, .int .i64 ck, .int .i64 pl, .bool wt, .slice dA evs.length dc] 35 (0, 0)) = w0 := ⟨_, rfl⟩
  have HB0 : Hid (Below w.heap.size w w0) := Lib.hid (by rw [← hw0]; exact (Below.refl _ _).alloc (Nat.le_refl _) _)
  have a7 : w0.cell? ⟨X, 7, none⟩ = some (.slice dA evs.length dc) := by rw [← hw0, ← hX]; simp
  have hXl : X < w0.heap.size := by rw [← hw0, ← hX]; simp
  have HA0 := Lib.hid (HA.out.keep (HB0.out.mono hB) (Nat.le_refl _))
  have HD := Lib.hid (fun W (h : Below w0.heap.size w0 W) => (h.cell (p := ⟨X, 7, none⟩) hXl).trans a7)
  have HEV := Lib.hid (fun W (h : Below w0.heap.size w0 W) => HA0.out.keep (h.mono (Nat.le_trans hB HB0.out.size)) (Nat.le_refl _))
  have HS0 : Hid ((evs.take 0).any (evMakes at_) = false) := Lib.hid (by simp)
  clear HA0 hXl
  go_enter Try.func69, Try.ntmps69
  go_wp2_with fail
  clear hw0 hX a7
  go_loopw [7] (fun i wr => ∃ k : Nat, i = .int .i64 k ∧ k ≤ first ∧ Hid ((evs.take k).any (evMakes at_) = false) ∧ Hid (Below w0.heap.size w0 wr)) (fun i _ => first - (intOf i).toNat)
  case atStart => exact ⟨0, rfl, Nat.zero_le _, HS0, Lib.hid (Below.refl _ _)⟩
  case round =>
    clear HS0
    obtain ⟨k, rfl, hk, hV, hW⟩ := hrel
    have a7 := HD.out _ hW.out
    have HBW := Lib.hid (fun W (h : Below w0.heap.size w0 W) => HB0.out.trans (h.mono HB0.out.size))
    by_cases hlt : k < first
    · have hlt2 : k < evs.length := by omega
      obtain ⟨b, off, rfl, hbl, hc⟩ := HEV.out _ hW.out (by rintro rfl; simp at hlt2)
      obtain ⟨e0, e1, e2, e3⟩ := hc k _ (List.getElem?_eq_getElem hlt2)
      obtain ⟨t, ht⟩ := HE.out _ (List.getElem_mem hlt2)
      have hst := Lib.hid (any_take (p := evMakes at_) hlt2)
      have hmono := Lib.hid (fun h => any_take_mono (p := evMakes at_) hlt2 hlt h)
      have q1 : (k : Int) < (first : Int) := by omega
      have q2 : (0 : Int) ≤ (k : Int) := Int.natCast_nonneg _
      have q3 : (k : Int) < (evs.length : Int) := by omega
      have hE := Lib.hid (fun o => hW.out.alloc hW.out.size o)
      clear hc
      generalize evs[k] = ev at *
      obtain ⟨eth, ekd, ea, eb⟩ := ev
      dsimp only at *
      have hev := evB_iff.1 ht
      clear ht
      obtain ⟨w1, hw1⟩ : ∃ w1, wr.alloc (.cells #[.int .i64 eth, .int .u8 ekd, .int .i64 ea, .int .i64 eb] 38 (0, 0)) = w1 := ⟨_, rfl⟩
      have d1 : w1.cell? ⟨wr.heap.size, 1, none⟩ = some (.int .u8 ekd) := by rw [← hw1]; simp
      have d2 : w1.cell? ⟨wr.heap.size, 2, none⟩ = some (.int .i64 ea) := by rw [← hw1]; simp
      have d3 : w1.cell? ⟨wr.heap.size, 3, none⟩ = some (.int .i64 eb) := by rw [← hw1]; simp
      have hE : Hid (Below w0.heap.size w0 w1) := Lib.hid (by rw [← hw1]; exact hE.out _)
      by_cases g1 : ekd = 6
      · subst g1
        by_cases g2 : ea ≤ at_
        · have t2 : decide (ea ≤ at_) = true := by simp; omega
          have hwr : IntKind.i64.wrap (at_ - ea) = at_ - ea := by rw [IntKind.wrap_i64]; omega
          by_cases g3 : at_ - ea < eb
          · have t3 : decide (at_ - ea < eb) = true := by simp; omega
            have hF : Hid (R = true) := Lib.hid (by rw [← HR.out]; exact hmono.out (by unfold evMakes; simp; omega))
            have hE2 := Lib.hid (HBW.out _ hE.out)
            clear hV hst hmono hev
            go_wp2_with fail
            go_ret
            exact ⟨by first | (rw [hF.out]; done) | (rw [hF.out]; rfl), hE2.out⟩
          · have t3 : decide (at_ - ea < eb) = false := by simp; omega
            have hF : Hid ((evs.take (k + 1)).any (evMakes at_) = false) := Lib.hid (by rw [hst.out, hV.out]; unfold evMakes; simp; omega)
            clear hV hmono hev g3
            clear hst
            go_wp2_with fail
            go_roundw
            case rel => exact ⟨k + 1, by go_num, by omega, hF, hE⟩
            case measure => simp [intOf]; omega
        · have t2 : decide (ea ≤ at_) = false := by simp; omega
          have hF : Hid ((evs.take (k + 1)).any (evMakes at_) = false) := Lib.hid (by rw [hst.out, hV.out]; unfold evMakes; simp; omega)
          clear hV hmono hev g2
          clear hst
          go_wp2_with fail
          go_roundw
          case rel => exact ⟨k + 1, by go_num, by omega, hF, hE⟩
          case measure => simp [intOf]; omega
      · have t1 : (ekd == 6) = false := by simpa using g1
        have t1b : decide (ekd = 6) = false := by simpa using g1
        have hF : Hid ((evs.take (k + 1)).any (evMakes at_) = false) := Lib.hid (by rw [hst.out, hV.out]; unfold evMakes; simp [g1])
        clear hV hmono hev g1
        clear hst
        go_wp2_with fail
        go_roundw
        case rel => exact ⟨k + 1, by go_num, by omega, hF, hE⟩
        case measure => simp [intOf]; omega
    · have hkl : k = first := by omega
      have hF : Hid (R = false) := Lib.hid (by rw [← HR.out, ← hkl]; exact hV.out)
      have hE := Lib.hid (HBW.out _ hW.out)
      clear hkl hV hW
      go_wp2_with fail
      go_ret
      exact ⟨by first | (rw [hF.out]; done) | (rw [hF.out]; rfl), hE.out⟩
end Go.Proofs.Ytjaegddnikkibaa
namespace Go.Proofs.Ytjaegddnikkibaa
open Go.RowKit Go.Sort

def own2 : List Ev → List Ev → Bool
  | _, [] => true
  | pre, e :: r => (if e.kd = 4 ∨ e.kd = 5 then pre.any (evMakes e.a) else true) && own2 (pre ++ [e]) r
theorem own2_step {evs : List Ev} {k : Nat} (h : k < evs.length) : own2 (evs.take k) (evs.drop k) = ((if evs[k].kd = 4 ∨ evs[k].kd = 5 then (evs.take k).any (evMakes evs[k].a) else true) && own2 (evs.take (k + 1)) (evs.drop (k + 1))) := by
  rw [List.drop_eq_getElem_cons h, List.take_succ_eq_append_getElem h]; rfl

set_option maxHeartbeats 4000000 in
set_option maxRecDepth 100000 in
theorem rfOwn_any (th kd bg en ck pl : Int) (wt : Bool) (dA : Option Addr) (dc : Nat) (evs : List Ev) (B : Nat) (hn : evs.length ≤ 1048576) (he : ∀ e ∈ evs, ∃ t, evB t e = true) (w : World) (ha : EvsAt w B dA evs) (hB : B ≤ w.heap.size) :
    Calls Try.prog 53 #[.agg #[.int .i64 th, .int .u8 kd, .int .i64 bg, .int .i64 en, .int .i64 ck, .int .i64 pl, .bool wt, .slice dA evs.length dc]] w fun e w' => e = .returned (.bool (own2 [] evs)) ∧ Below w.heap.size w w' := by
  have HA := Lib.hid ha
  have HE := Lib.hid he
  obtain ⟨R, hR⟩ : ∃ R, own2 [] evs = R := ⟨_, rfl⟩
  rw [hR]
  have HR0 : Hid (R = own2 (evs.take 0) (evs.drop 0)) := Lib.hid hR.symm
  clear ha he hR
  obtain ⟨X, hX⟩ : ∃ X, w.heap.size = X := ⟨_, rfl⟩
  obtain ⟨w0, hw0⟩ : ∃ w0, w.alloc (.cells #[.int .i64 th, .int .u8 kd, .int .i64 bg, .int .i64 en, .int .i64 ck, .int .i64 pl, .bool wt, .slice dA evs.length dc] 35 (0, 0)) = w0 := ⟨_, rfl⟩
  have HB0 : Hid (Below w.heap.size w w0) := Lib.hid (by rw [← hw0]; exact (Below.refl _ _).alloc (Nat.le_refl _) _)
  have HX0 : Hid (AttAt w0 X 0 ⟨th, kd, bg, en, ck, pl, wt, dA, dc, evs⟩) := Lib.hid (by rw [← hw0, ← hX]; constructor <;> simp)
  have hXl : X < w0.heap.size := by rw [← hw0, ← hX]; simp
  have HA0 := Lib.hid (HA.out.keep (HB0.out.mono hB) (Nat.le_refl _))
  have HD := Lib.hid (fun W (h : Below w0.heap.size w0 W) => HX0.out.keep fun o' => h.cell (p := ⟨X, o', none⟩) hXl)
  have HEV := Lib.hid (fun W (h : Below w0.heap.size w0 W) => HA0.out.keep (h.mono (Nat.le_trans hB HB0.out.size)) (Nat.le_refl _))
  obtain ⟨a0, a1, a2, a3, a4, a5, a6, a7⟩ := HX0.out
  simp only [Nat.zero_add] at a0 a1 a2 a3 a4 a5 a6 a7
  clear HX0 HA0 hXl
  go_enter Try.func53, Try.ntmps53
  go_wp2_with fail
  clear hw0 hX a0 a1 a2 a3 a4 a5 a6 a7
  go_loopw [3] (fun i wr => ∃ k : Nat, i = .int .i64 k ∧ k ≤ evs.length ∧ Hid (R = own2 (evs.take k) (evs.drop k)) ∧ Hid (Below w0.heap.size w0 wr)) (fun i _ => evs.length - (intOf i).toNat)
  case atStart => exact ⟨0, rfl, Nat.zero_le _, HR0, Lib.hid (Below.refl _ _)⟩
  case round =>
    clear HR0
    obtain ⟨k, rfl, hk, hV, hW⟩ := hrel
    by_cases hlt : k < evs.length
    · obtain ⟨b, off, rfl, hbl, hc⟩ := HEV.out _ hW.out (by rintro rfl; simp at hlt)
      obtain ⟨e0, e1, e2, e3⟩ := hc k _ (List.getElem?_eq_getElem hlt)
      obtain ⟨t, ht⟩ := HE.out _ (List.getElem_mem hlt)
      have hst := Lib.hid (own2_step hlt)
      have q2 : (0 : Int) ≤ (k : Int) := Int.natCast_nonneg _
      have q3 : (k : Int) < (evs.length : Int) := by omega
      have hE0 := Lib.hid (fun o => hW.out.alloc hW.out.size o)
      obtain ⟨z0, z1, z2, z3, z4, z5, z6, z7⟩ := HD.out _ hW.out
      simp only [Nat.zero_add] at z0 z1 z2 z3 z4 z5 z6 z7
      clear hc
      generalize evs[k] = ev at *
      obtain ⟨eth, ekd, ea, eb⟩ := ev
      dsimp only at *
      have hev := evB_iff.1 ht
      clear ht
      obtain ⟨w1, hw1⟩ : ∃ w1, wr.alloc (.cells #[.int .i64 eth, .int .u8 ekd, .int .i64 ea, .int .i64 eb] 38 (0, 0)) = w1 := ⟨_, rfl⟩
      have d1 : w1.cell? ⟨wr.heap.size, 1, none⟩ = some (.int .u8 ekd) := by rw [← hw1]; simp
      have d2 : w1.cell? ⟨wr.heap.size, 2, none⟩ = some (.int .i64 ea) := by rw [← hw1]; simp
      have hE : Hid (Below w0.heap.size w0 w1) := Lib.hid (by rw [← hw1]; exact hE0.out _)
      obtain ⟨a0, a1, a2, a3, a4, a5, a6, a7⟩ := HD.out _ hE.out
      simp only [Nat.zero_add] at a0 a1 a2 a3 a4 a5 a6 a7
      have HBW := Lib.hid (fun W (h : Below w1.heap.size w1 W) => HB0.out.trans ((hE.out.trans (h.mono hE.out.size)).mono HB0.out.size))
      have HEW := Lib.hid (fun W (h : Below w1.heap.size w1 W) => HEV.out W (hE.out.trans (h.mono hE.out.size)))
      clear hE0
      by_cases g4 : ekd = 4
      · subst g4
        have hst2 : Hid (own2 (evs.take k) (evs.drop k) = ((evs.take k).any (evMakes ea) && own2 (evs.take (k + 1)) (evs.drop (k + 1)))) := Lib.hid (by rw [hst.out]; rfl)
        have hMK := Lib.hid (fun W (h : Below w1.heap.size w1 W) => makes_any th kd bg en ck pl wt (some ⟨b, off, none⟩) dc evs B k ea hn (by omega) HE.out (by omega) (by omega) W (HEW.out W h) (Nat.le_trans hB (HBW.out W h).size))
        clear hst hev
        cases hany : (evs.take k).any (evMakes ea)
        · have hF : Hid (R = false) := Lib.hid (by rw [hV.out, hst2.out, hany]; rfl)
          clear hV hst2
          go_wp2_with fail
          refine (hMK.out _ (Below.refl _ _)).mono ?_
          rintro e w2 ⟨rfl, hb⟩
          rw [hany]
          have hE2 := Lib.hid (HBW.out _ hb)
          clear hb hMK hany
          go_wp2_with fail
          go_ret
          exact ⟨by first | (rw [hF.out]; done) | (rw [hF.out]; rfl), hE2.out⟩
        · have hF : Hid (R = own2 (evs.take (k + 1)) (evs.drop (k + 1))) := Lib.hid (by rw [hV.out, hst2.out, hany]; rfl)
          clear hV hst2
          go_wp2_with fail
          refine (hMK.out _ (Below.refl _ _)).mono ?_
          rintro e w2 ⟨rfl, hb⟩
          rw [hany]
          have hE2 := Lib.hid (hE.out.trans (hb.mono hE.out.size))
          clear hb hMK hany
          go_wp2_with fail
          go_roundw
          case rel => exact ⟨k + 1, by go_num, by omega, hF, hE2⟩
          case measure => simp [intOf]; omega
      · by_cases g5 : ekd = 5
        · subst g5
          have hst2 : Hid (own2 (evs.take k) (evs.drop k) = ((evs.take k).any (evMakes ea) && own2 (evs.take (k + 1)) (evs.drop (k + 1)))) := Lib.hid (by rw [hst.out]; rfl)
          have hMK := Lib.hid (fun W (h : Below w1.heap.size w1 W) => makes_any th kd bg en ck pl wt (some ⟨b, off, none⟩) dc evs B k ea hn (by omega) HE.out (by omega) (by omega) W (HEW.out W h) (Nat.le_trans hB (HBW.out W h).size))
          clear hst hev
          cases hany : (evs.take k).any (evMakes ea)
          · have hF : Hid (R = false) := Lib.hid (by rw [hV.out, hst2.out, hany]; rfl)
            clear hV hst2
            go_wp2_with fail
            refine (hMK.out _ (Below.refl _ _)).mono ?_
            rintro e w2 ⟨rfl, hb⟩
            rw [hany]
            have hE2 := Lib.hid (HBW.out _ hb)
            clear hb hMK hany
            go_wp2_with fail
            go_ret
            exact ⟨by first | (rw [hF.out]; done) | (rw [hF.out]; rfl), hE2.out⟩
          · have hF : Hid (R = own2 (evs.take (k + 1)) (evs.drop (k + 1))) := Lib.hid (by rw [hV.out, hst2.out, hany]; rfl)
            clear hV hst2
            go_wp2_with fail
            refine (hMK.out _ (Below.refl _ _)).mono ?_
            rintro e w2 ⟨rfl, hb⟩
            rw [hany]
            have hE2 := Lib.hid (hE.out.trans (hb.mono hE.out.size))
            clear hb hMK hany
            go_wp2_with fail
            go_roundw
            case rel => exact ⟨k + 1, by go_num, by omega, hF, hE2⟩
            case measure => simp [intOf]; omega
        · have t4 : (ekd == 4) = false := by simpa using g4
          have t5 : (ekd == 5) = false := by simpa using g5
          have t4b : decide (ekd = 4) = false := by simpa using g4
          have t5b : decide (ekd = 5) = false := by simpa using g5
          have hF : Hid (R = own2 (evs.take (k + 1)) (evs.drop (k + 1))) := Lib.hid (by rw [hV.out, hst.out, if_neg (by omega)]; rfl)
          clear hV hst hev g4 g5
          go_wp2_with fail
          go_roundw
          case rel => exact ⟨k + 1, by go_num, by omega, hF, hE⟩
          case measure => simp [intOf]; omega
    · have hkl : k = evs.length := by omega
      have hF : Hid (R = true) := Lib.hid (by rw [hV.out, hkl, List.drop_length]; rfl)
      have hE := Lib.hid (HB0.out.trans (hW.out.mono HB0.out.size))
      obtain ⟨z0, z1, z2, z3, z4, z5, z6, z7⟩ := HD.out _ hW.out
      simp only [Nat.zero_add] at z0 z1 z2 z3 z4 z5 z6 z7
      clear hkl hV hW
      go_wp2_with fail
      go_ret
      exact ⟨by first | (rw [hF.out]; done) | (rw [hF.out]; rfl), hE.out⟩
end Go.Proofs.Ytjaegddnikkibaa
