/-
  opaque.Own walked.
-/
import Derived.Test.YtjaegddnikkibaaLawful
import Derived.Test.YtjaegddnikkibaaWrites
set_option linter.unusedVariables false
set_option linter.unusedSimpArgs false
namespace Go.Proofs.Ytjaegddnikkibaa
open Go.RowKit Go.Sort Go.Maps

theorem zeroInt (w : World) : (zeroValue 3).run Try.prog w = .ok (.int .i64 0) w := by kernel_rfl
theorem okFromAll : ∀ (l : List Att) (p : Option Int), okFrom p l = true → ∀ x ∈ l, attB x = true
  | [], _, _, x, hx => by cases hx
  | y :: r, p, h, x, hx => by
    unfold okFrom at h
    simp only [Bool.and_eq_true] at h
    rcases List.mem_cons.1 hx with rfl | hx
    · exact h.1.1
    · exact okFromAll r _ h.2 x hx
theorem checkedOk {l : List Att} (h : checkedV l = 0) : totalSize l ≤ 1048576 ∧ ∀ x ∈ l, ∀ e ∈ x.evs, evB x.th e = true := by
  unfold checkedV at h
  split at h
  · cases h
  · split at h
    · rename_i h1 h2
      refine ⟨by omega, fun x hx => ?_⟩
      have h3 := okFromAll l _ h2 x hx
      unfold attB at h3
      simp only [Bool.and_eq_true] at h3
      exact List.all_eq_true.1 h3.2
    · cases h
theorem ownGo_step (l : List Att) (y : Att) {es : List Ev} {j : Nat} (h : j < es.length) :
    ownGo l y (es.take j) (es.drop j) = ((if es[j].kd = 6 then true else if es[j].kd = 4 ∨ es[j].kd = 5 then (es.take j).any (evMakes es[j].a) else lawfulV l y es[j].a) && ownGo l y (es.take (j + 1)) (es.drop (j + 1))) := by
  rw [List.drop_eq_getElem_cons h, List.take_succ_eq_append_getElem h]; rfl
theorem cntV_step {es : List Ev} {j : Nat} (h : j < es.length) (y : Int) : cntV (es.take (j + 1)) y = cntV (es.take j) y + (if evMakes y es[j] then 1 else 0) := by
  rw [List.take_succ_eq_append_getElem h, cntV_snoc]
theorem cntV_take (es : List Ev) (j : Nat) (y : Int) : 0 ≤ cntV (es.take j) y ∧ cntV (es.take j) y ≤ es.length := by
  have h := cntV_le (es.take j) y
  have h2 : (es.take j).length ≤ es.length := by rw [List.length_take]; omega
  omega

set_option maxHeartbeats 4000000 in
set_option maxRecDepth 100000 in
theorem oown_any (A : Option Addr) (c : Nat) (l : List Att) (hn : l.length ≤ 1048576) (hO : ∀ x ∈ l, x.Ok) (w : World) (ha : AttsAt w w.heap.size A l) :
    Calls Try.prog 18 #[.slice A l.length c] w fun e w' => e = .returned (.tuple #[.int .i64 (oownV l).1, .int .i64 (oownV l).2]) ∧ Below w.heap.size w w' := by
  have HC := Lib.hid (checked_any A c l (by omega) hO w ha)
  have HA := Lib.hid (fun W (h : Below w.heap.size w W) => ha.keep h (Nat.le_refl _))
  have HOK := Lib.hid hO
  by_cases hck : checkedV l = 0
  · have HK := Lib.hid hck
    obtain ⟨hts, hatt⟩ := checkedOk hck
    have HTL := Lib.hid (fun x hx => Nat.le_trans (evsLe l x hx) hts)
    have HOO : Hid (∀ x ∈ l, x.Ok ∧ ∀ e ∈ x.evs, evB x.th e = true) := Lib.hid (fun x hx => ⟨HOK.out x hx, hatt x hx⟩)
    have HMADE := Lib.hid (fun W (h : Below w.heap.size w W) => made_any A c l hn hts HOO.out W (ha.keep h h.size))
    have HV : Hid (oownV l = failV 17 (firstNot (ownB l) 0 l.length)) := Lib.hid (by unfold oownV; rw [if_pos hck])
    clear hatt hts hck ha hO
    generalize oownV l = res at *
    go_enter Try.func18, Try.ntmps18
    go_wp2_with fail
    refine HC.out.mono ?_
    rintro e w1 ⟨rfl, hb1⟩
    have HB1 := Lib.hid hb1
    clear hb1
    rw [HK.out]
    go_wp2_with fail
    refine (HMADE.out _ HB1.out).mono ?_
    rintro e w2 ⟨rfl, ⟨NG, hNG, hG⟩, hb2⟩
    have HGR := Lib.hid (fun W (h : Below w2.heap.size w2 W) => hG.keep h)
    have HW2 : Hid (Below w.heap.size w w2) := Lib.hid (HB1.out.trans (hb2.mono HB1.out.size))
    clear hG hb2
    go_wp2_with fail
    go_loopw [21] (fun i wr => ∃ k : Nat, i = .int .i64 k ∧ k ≤ l.length ∧ Hid (res = failV 17 (firstNot (ownB l) k (l.length - k))) ∧ Hid (Below w2.heap.size w2 wr)) (fun i _ => l.length - (intOf i).toNat)
    case atStart => exact ⟨0, rfl, Nat.zero_le _, HV, Lib.hid (Below.refl _ _)⟩
    case round =>
      clear HV
      obtain ⟨k, rfl, hk, hV, hW⟩ := hrel
      have HW := Lib.hid (HW2.out.trans (hW.out.mono HW2.out.size))
      by_cases hlt : k < l.length
      · obtain ⟨b, off, rfl, hbl, hc⟩ := (HA.out _ HW.out).row (by rintro rfl; simp at hlt)
        obtain ⟨c0, c1, c2, c3, c4, c5, c6, c7⟩ := hc k _ (List.getElem?_eq_getElem hlt)
        have hev := Lib.hid (fun W (h : Below w.heap.size w W) => (HA.out _ h).evs _ (List.getElem_mem hlt))
        have hxl := HTL.out _ (List.getElem_mem hlt)
        have hel := Lib.hid (fun e he => (⟨(HOO.out _ (List.getElem_mem hlt)).1.evs e he, (HOO.out _ (List.getElem_mem hlt)).2 e he⟩ : e.Ok ∧ evB l[k].th e = true))
        have hst : Hid (firstNot (ownB l) k (l.length - k) = if ownB l (k : Int) then firstNot (ownB l) (k + 1) (l.length - (k + 1)) else some (k : Int)) := Lib.hid (by rw [show l.length - k = (l.length - (k + 1)) + 1 by omega]; rfl)
        have hown0 : Hid (ownB l (k : Int) = ownGo l l[k] (l[k].evs.take 0) (l[k].evs.drop 0)) := Lib.hid (by unfold ownB; rw [attN_get hlt]; rfl)
        clear hc
        generalize l[k] = x at *
        obtain ⟨th, xkd, bg, en, ck, pl, wt, dA, dc, evs⟩ := x
        dsimp only at *
        obtain ⟨X, hX⟩ : ∃ X, wr.heap.size = X := ⟨_, rfl⟩
        obtain ⟨wX, hwX⟩ : ∃ w0, wr.alloc (.cells #[.int .i64 th, .int .u8 xkd, .int .i64 bg, .int .i64 en, .int .i64 ck, .int .i64 pl, .bool wt, .slice dA evs.length dc] 35 (0, 0)) = w0 := ⟨_, rfl⟩
        have hXl : X < wX.heap.size := by rw [← hwX, ← hX]; simp
        have q0 : wX.cell? ⟨X, 0, none⟩ = some (.int .i64 th) := by rw [← hwX, ← hX]; simp
        have q1 : wX.cell? ⟨X, 1, none⟩ = some (.int .u8 xkd) := by rw [← hwX, ← hX]; simp
        have q2 : wX.cell? ⟨X, 2, none⟩ = some (.int .i64 bg) := by rw [← hwX, ← hX]; simp
        have q3 : wX.cell? ⟨X, 3, none⟩ = some (.int .i64 en) := by rw [← hwX, ← hX]; simp
        have q4 : wX.cell? ⟨X, 4, none⟩ = some (.int .i64 ck) := by rw [← hwX, ← hX]; simp
        have q5 : wX.cell? ⟨X, 5, none⟩ = some (.int .i64 pl) := by rw [← hwX, ← hX]; simp
        have q6 : wX.cell? ⟨X, 6, none⟩ = some (.bool wt) := by rw [← hwX, ← hX]; simp
        have q7 : wX.cell? ⟨X, 7, none⟩ = some (.slice dA evs.length dc) := by rw [← hwX, ← hX]; simp
        have HWX : Hid (Below w.heap.size w wX) := Lib.hid (by rw [← hwX]; exact HW.out.alloc HW.out.size _)
        have HWX2 : Hid (Below w2.heap.size w2 wX) := Lib.hid (by rw [← hwX]; exact hW.out.alloc hW.out.size _)
        have hmk := run_makeMap_plain (P := Try.prog) wX 77
        obtain ⟨M, hM⟩ : ∃ M, wX.heap.size = M := ⟨_, rfl⟩
        obtain ⟨wM, hwM⟩ : ∃ w0, wX.alloc (.map #[] 0) = w0 := ⟨_, rfl⟩
        have hMM : Hid (MapAt Try.prog 2 3 wM M 0 (fun y => cntV (evs.take 0) y)) := Lib.hid (by rw [← hwM, ← hM]; exact MapAt.made _ _ _ _)
        have hMl : M < wM.heap.size := hMM.out.lt
        have hbM : Below wX.heap.size wX wM := by rw [← hwM]; exact (Below.refl _ _).alloc (Nat.le_refl _) _
        have hXM : X ≠ M := by omega
        have K := fun o => hbM.cell (p := ⟨X, o, none⟩) hXl
        have D := Lib.hid (fun W (h : MapF M wM W) => (⟨(h.cell (p := ⟨X, 0, none⟩) (by show X < _; omega) hXM).trans ((K 0).trans q0), (h.cell (p := ⟨X, 1, none⟩) (by show X < _; omega) hXM).trans ((K 1).trans q1), (h.cell (p := ⟨X, 2, none⟩) (by show X < _; omega) hXM).trans ((K 2).trans q2), (h.cell (p := ⟨X, 3, none⟩) (by show X < _; omega) hXM).trans ((K 3).trans q3), (h.cell (p := ⟨X, 4, none⟩) (by show X < _; omega) hXM).trans ((K 4).trans q4), (h.cell (p := ⟨X, 5, none⟩) (by show X < _; omega) hXM).trans ((K 5).trans q5), (h.cell (p := ⟨X, 6, none⟩) (by show X < _; omega) hXM).trans ((K 6).trans q6), (h.cell (p := ⟨X, 7, none⟩) (by show X < _; omega) hXM).trans ((K 7).trans q7)⟩ :
          W.cell? ⟨X, 0, none⟩ = some (.int .i64 th) ∧ W.cell? ⟨X, 1, none⟩ = some (.int .u8 xkd) ∧ W.cell? ⟨X, 2, none⟩ = some (.int .i64 bg) ∧ W.cell? ⟨X, 3, none⟩ = some (.int .i64 en) ∧ W.cell? ⟨X, 4, none⟩ = some (.int .i64 ck) ∧ W.cell? ⟨X, 5, none⟩ = some (.int .i64 pl) ∧ W.cell? ⟨X, 6, none⟩ = some (.bool wt) ∧ W.cell? ⟨X, 7, none⟩ = some (.slice dA evs.length dc)))
        have r7 : wM.cell? ⟨X, 7, none⟩ = some (.slice dA evs.length dc) := (K 7).trans q7
        have HWB := Lib.hid (fun W (h : MapF M wM W) => (HWX.out.trans (hbM.mono HWX.out.size)).trans ((h.below (Nat.le_of_lt hMl)).mono (by have := HWX.out.size; omega)))
        have HWB2 := Lib.hid (fun W (h : MapF M wM W) => (HWX2.out.trans (hbM.mono HWX2.out.size)).trans ((h.below (Nat.le_of_lt hMl)).mono (by have := HWX2.out.size; omega)))
        clear hXl q0 q1 q2 q3 q4 q5 q6 HWX HWX2 hbM K HW hW hMl
        go_wp2_with fail
        clear c0 c1 c2 c3 c4 c5 c6 c7 q7 r7 hmk hwX hX hwM hM
        obtain ⟨wo, rfl⟩ : ∃ wo : World, wo = wr := ⟨_, rfl⟩
        go_loopw [30] (fun i wi => ∃ j n : Nat, i = .int .i64 j ∧ j ≤ evs.length ∧ n + 65 * (evs.length - j) ≤ 68157440 ∧ Hid (ownB l (k : Int) = ownGo l ⟨th, xkd, bg, en, ck, pl, wt, dA, dc, evs⟩ (evs.take j) (evs.drop j)) ∧ Hid (MapAt Try.prog 2 3 wi M n (fun y => cntV (evs.take j) y)) ∧ Hid (MapF M wM wi)) (fun i _ => evs.length - (intOf i).toNat)
        case atStart => exact ⟨0, 0, rfl, Nat.zero_le _, by omega, hown0, hMM, Lib.hid (MapF.refl _ _)⟩
        case round =>
          clear hown0 hMM
          obtain ⟨j, n, rfl, hj, hB, hown, hM, hF⟩ := hrel
          by_cases hjl : j < evs.length
          · obtain ⟨eb, eoff, rfl, -, hec⟩ := hev.out _ (HWB.out _ hF.out) (by rintro rfl; simp at hjl)
            obtain ⟨e0, e1, e2, e3⟩ := hec j _ (List.getElem?_eq_getElem hjl)
            obtain ⟨hEo, hEb⟩ := hel.out _ (List.getElem_mem hjl)
            have hos0 := Lib.hid (ownGo_step l ⟨th, xkd, bg, en, ck, pl, wt, some ⟨eb, eoff, none⟩, dc, evs⟩ hjl)
            have hcn := Lib.hid (cntV_step hjl)
            have hct := Lib.hid (cntV_take evs j)
            clear hec
            generalize evs[j] = ev at *
            obtain ⟨eth, ekd, a, bv⟩ := ev
            have hev2 := evB_iff.1 hEb
            clear hEo hEb
            dsimp only at *
            obtain ⟨-, ha0, ha1, hkk⟩ := hev2
            have hia : i64ok a := ⟨by omega, by omega⟩
            obtain ⟨w0, hw0⟩ : ∃ w0, wr.alloc (.cells #[.int .i64 eth, .int .u8 ekd, .int .i64 a, .int .i64 bv] 38 (0, 0)) = w0 := ⟨_, rfl⟩
            obtain ⟨V, hVV⟩ : ∃ V, wr.heap.size = V := ⟨_, rfl⟩
            have hM0 : Hid (MapAt Try.prog 2 3 w0 M n (fun y => cntV (evs.take j) y)) := Lib.hid (by rw [← hw0]; exact hM.out.alloc _)
            have hF0 : Hid (MapF M wM w0) := Lib.hid (by rw [← hw0]; exact hF.out.alloc _)
            have d1 : w0.cell? ⟨V, 1, none⟩ = some (.int .u8 ekd) := by rw [← hw0, ← hVV]; simp
            have d2 : w0.cell? ⟨V, 2, none⟩ = some (.int .i64 a) := by rw [← hw0, ← hVV]; simp
            have d3 : w0.cell? ⟨V, 3, none⟩ = some (.int .i64 bv) := by rw [← hw0, ← hVV]; simp
            have hVl : V < w0.heap.size := by rw [← hw0, ← hVV]; simp
            have hVM : V ≠ M := by have := hM.out.lt; omega
            clear hM hF
            rcases (by omega : ekd = 6 ∨ ekd = 4 ∨ ekd = 5 ∨ ekd = 2 ∨ ekd = 3) with rfl | rfl | rfl | rfl | rfl
            · obtain ⟨b0, b1, b2⟩ : 0 ≤ bv ∧ bv ≤ 64 ∧ a + bv ≤ 262144 := by omega
              have hown2 : Hid (ownB l (k : Int) = ownGo l ⟨th, xkd, bg, en, ck, pl, wt, some ⟨eb, eoff, none⟩, dc, evs⟩ (evs.take (j + 1)) (evs.drop (j + 1))) := Lib.hid (by rw [hown.out, hos0.out, if_pos rfl, Bool.true_and])
              have hM1 : Hid (MapAt Try.prog 2 3 w0 M n (fun y => cntV (evs.take j) y + (if a ≤ y ∧ y < a + ((0 : Nat) : Int) then 1 else 0))) := Lib.hid (hM0.out.congr fun y => by rw [if_neg (by omega)]; omega)
              have hB0 : n + (65 - 0) + 65 * (evs.length - (j + 1)) ≤ 68157440 := by omega
              have D2 := Lib.hid (fun W (h : MapF M w0 W) => (h.cell (p := ⟨V, 2, none⟩) hVl hVM).trans d2)
              clear hown hos0 hB hM0 hkk
              go_wp2_with fail
              clear e0 e1 e2 e3 d1 d2 d3 hw0 hVV hVl hVM
              obtain ⟨wo2, rfl⟩ : ∃ wo : World, wo = wr := ⟨_, rfl⟩
              go_loopw [48] (fun i wi => ∃ q n : Nat, i = .int .i64 q ∧ (q : Int) ≤ bv ∧ n + (65 - q) + 65 * (evs.length - (j + 1)) ≤ 68157440 ∧ Hid (MapAt Try.prog 2 3 wi M n (fun y => cntV (evs.take j) y + (if a ≤ y ∧ y < a + (q : Int) then 1 else 0))) ∧ Hid (MapF M w0 wi)) (fun i _ => bv.toNat - (intOf i).toNat)
              case atStart => exact ⟨0, n, rfl, by omega, hB0, hM1, Lib.hid (MapF.refl _ _)⟩
              case round =>
                clear hB0 hM1
                obtain ⟨q, n, rfl, hq, hB, hM, hF⟩ := hrel
                have d2 := D2.out _ hF.out
                by_cases hqb : (q : Int) < bv
                · have p1 : (0 : Int) ≤ (q : Int) := Int.natCast_nonneg _
                  have hwr : IntKind.i64.wrap (a + (q : Int)) = a + (q : Int) := by rw [IntKind.wrap_i64]; omega
                  have hlk := (hM.out.look (t := 77) (by kernel_rfl) (by kernel_rfl) (by kernel_rfl) (zeroInt wr) (x := a + (q : Int)) (wf64 ⟨by omega, by omega⟩))
                  rw [if_neg (by omega), Int.add_zero] at hlk
                  have hcb := hct.out (a + (q : Int))
                  obtain ⟨cv, hcv⟩ : ∃ cv, cntV (evs.take j) (a + (q : Int)) = cv := ⟨_, rfl⟩
                  rw [hcv] at hlk hcb
                  obtain ⟨w3, hrun, hM2, hg2⟩ := hM.out.put (t := 77) (by kernel_rfl) (by kernel_rfl) (by kernel_rfl) (by unfold maxLen; omega) (x := a + (q : Int)) (v := cv + 1) (wf64 ⟨by omega, by omega⟩) (wf64 ⟨by omega, by omega⟩)
                  have hM3 : Hid (MapAt Try.prog 2 3 w3 M (n + 1) (fun y => cntV (evs.take j) y + (if a ≤ y ∧ y < a + ((q + 1 : Nat) : Int) then 1 else 0))) := Lib.hid (hM2.congr (fun y => by
                    by_cases h1 : y = a + (q : Int)
                    · rw [if_pos h1, if_pos (by omega), h1, hcv]
                    · rw [if_neg h1]
                      by_cases h2 : a ≤ y ∧ y < a + (q : Int)
                      · rw [if_pos h2, if_pos (by omega)]
                      · rw [if_neg h2, if_neg (by omega)]))
                  have hF3 : Hid (MapF M w0 w3) := Lib.hid (hF.out.trans (.grown hg2))
                  have hwr2 : IntKind.i64.wrap (cv + 1) = cv + 1 := by rw [IntKind.wrap_i64]; omega
                  clear hM2 hg2 hM hF hcv
                  go_wp2_with fail
                  go_roundw
                  case rel => exact ⟨q + 1, n + 1, by go_num, by omega, by omega, hM3, hF3⟩
                  case measure => simp [intOf]; omega
                · obtain rfl : (q : Int) = bv := by omega
                  have hM3 : Hid (MapAt Try.prog 2 3 wr M n (fun y => cntV (evs.take (j + 1)) y)) := Lib.hid (hM.out.congr (fun y => by
                    rw [hcn.out y]; unfold evMakes
                    by_cases h2 : a ≤ y ∧ y < a + (q : Int)
                    · rw [if_pos h2]; simp [h2.1, h2.2]
                    · rw [if_neg h2, if_neg (by simp; omega)]))
                  have hF3 : Hid (MapF M wM wr) := Lib.hid (hF0.out.trans hF.out)
                  clear hM hF
                  go_wp2_with fail
                  go_roundw
                  case rel => exact ⟨j + 1, n, by go_num, by omega, by omega, hown2, hM3, hF3⟩
                  case measure => simp [intOf]; omega
            · skip
              have hlk := (hM0.out.look (t := 77) (by kernel_rfl) (by kernel_rfl) (by kernel_rfl) (zeroInt w0) (wf64 hia))
              have hos : Hid (ownGo l ⟨th, xkd, bg, en, ck, pl, wt, some ⟨eb, eoff, none⟩, dc, evs⟩ (evs.take j) (evs.drop j) = ((evs.take j).any (evMakes a) && ownGo l ⟨th, xkd, bg, en, ck, pl, wt, some ⟨eb, eoff, none⟩, dc, evs⟩ (evs.take (j + 1)) (evs.drop (j + 1)))) := Lib.hid (by rw [hos0.out, if_neg (by omega), if_pos (by omega)])
              have hM1 : Hid (MapAt Try.prog 2 3 w0 M n (fun y => cntV (evs.take (j + 1)) y)) := Lib.hid (hM0.out.congr (fun y => by rw [hcn.out y]; unfold evMakes; simp))
              clear hos0 hM0 hcn hkk
              cases hany : (evs.take j).any (evMakes a)
              · have hz : cntV (evs.take j) a = 0 := (cntV_zero _ _).2 hany
                rw [hz] at hlk
                clear hz
                have F : Hid ((.tuple #[.int .i64 (k : Int), .int .i64 17] : Value) = .tuple #[.int .i64 res.1, .int .i64 res.2]) := Lib.hid (by
                  have h2 : ownB l (k : Int) = false := by rw [hown.out, hos.out, hany]; simp
                  rw [hV.out, hst.out, h2]; rfl)
                have hE := Lib.hid (HWB.out _ hF0.out)
                clear hV hst hos hown
                go_wp2_with fail
                refine bodyPost_ret (v := .tuple #[.int .i64 k, .int .i64 17]) (by simp [results, Try.results18, go_sem]) rfl ?_
                exact ⟨congrArg _ F.out, hE.out⟩
              · obtain ⟨cv, hcv⟩ : ∃ cv, cntV (evs.take j) a = cv := ⟨_, rfl⟩
                have hz : (cv == 0) = false := by
                  have : cv ≠ 0 := fun e => by rw [← hcv] at e; rw [(cntV_zero _ _).1 e] at hany; cases hany
                  simpa using this
                have hz2 : decide (cv = 0) = false := by simpa using hz
                rw [hcv] at hlk
                have hown2 : Hid (ownB l (k : Int) = ownGo l ⟨th, xkd, bg, en, ck, pl, wt, some ⟨eb, eoff, none⟩, dc, evs⟩ (evs.take (j + 1)) (evs.drop (j + 1))) := Lib.hid (by rw [hown.out, hos.out, hany, Bool.true_and])
                clear hos hown hcv hany
                go_wp2_with fail
                go_roundw
                case rel => exact ⟨j + 1, n, by go_num, by omega, by omega, hown2, hM1, hF0⟩
                case measure => simp [intOf]; omega
            · skip
              have hlk := (hM0.out.look (t := 77) (by kernel_rfl) (by kernel_rfl) (by kernel_rfl) (zeroInt w0) (wf64 hia))
              have hos : Hid (ownGo l ⟨th, xkd, bg, en, ck, pl, wt, some ⟨eb, eoff, none⟩, dc, evs⟩ (evs.take j) (evs.drop j) = ((evs.take j).any (evMakes a) && ownGo l ⟨th, xkd, bg, en, ck, pl, wt, some ⟨eb, eoff, none⟩, dc, evs⟩ (evs.take (j + 1)) (evs.drop (j + 1)))) := Lib.hid (by rw [hos0.out, if_neg (by omega), if_pos (by omega)])
              have hM1 : Hid (MapAt Try.prog 2 3 w0 M n (fun y => cntV (evs.take (j + 1)) y)) := Lib.hid (hM0.out.congr (fun y => by rw [hcn.out y]; unfold evMakes; simp))
              clear hos0 hM0 hcn hkk
              cases hany : (evs.take j).any (evMakes a)
              · have hz : cntV (evs.take j) a = 0 := (cntV_zero _ _).2 hany
                rw [hz] at hlk
                clear hz
                have F : Hid ((.tuple #[.int .i64 (k : Int), .int .i64 17] : Value) = .tuple #[.int .i64 res.1, .int .i64 res.2]) := Lib.hid (by
                  have h2 : ownB l (k : Int) = false := by rw [hown.out, hos.out, hany]; simp
                  rw [hV.out, hst.out, h2]; rfl)
                have hE := Lib.hid (HWB.out _ hF0.out)
                clear hV hst hos hown
                go_wp2_with fail
                refine bodyPost_ret (v := .tuple #[.int .i64 k, .int .i64 17]) (by simp [results, Try.results18, go_sem]) rfl ?_
                exact ⟨congrArg _ F.out, hE.out⟩
              · obtain ⟨cv, hcv⟩ : ∃ cv, cntV (evs.take j) a = cv := ⟨_, rfl⟩
                have hz : (cv == 0) = false := by
                  have : cv ≠ 0 := fun e => by rw [← hcv] at e; rw [(cntV_zero _ _).1 e] at hany; cases hany
                  simpa using this
                have hz2 : decide (cv = 0) = false := by simpa using hz
                rw [hcv] at hlk
                have hown2 : Hid (ownB l (k : Int) = ownGo l ⟨th, xkd, bg, en, ck, pl, wt, some ⟨eb, eoff, none⟩, dc, evs⟩ (evs.take (j + 1)) (evs.drop (j + 1))) := Lib.hid (by rw [hown.out, hos.out, hany, Bool.true_and])
                clear hos hown hcv hany
                go_wp2_with fail
                go_roundw
                case rel => exact ⟨j + 1, n, by go_num, by omega, by omega, hown2, hM1, hF0⟩
                case measure => simp [intOf]; omega
            · skip
              have hos : Hid (ownGo l ⟨th, xkd, bg, en, ck, pl, wt, some ⟨eb, eoff, none⟩, dc, evs⟩ (evs.take j) (evs.drop j) = (lawfulV l ⟨th, xkd, bg, en, ck, pl, wt, some ⟨eb, eoff, none⟩, dc, evs⟩ a && ownGo l ⟨th, xkd, bg, en, ck, pl, wt, some ⟨eb, eoff, none⟩, dc, evs⟩ (evs.take (j + 1)) (evs.drop (j + 1)))) := Lib.hid (by rw [hos0.out, if_neg (by omega), if_neg (by omega)])
              have HCL := Lib.hid (lawful_any w1.heap.size NG c (some ⟨b, off, none⟩) l th xkd bg en ck pl wt (some ⟨eb, eoff, none⟩) dc evs a hia hn hNG w0 ((HA.out _ (HWB.out _ hF0.out)).keep (Below.refl _ _) (HWB.out _ hF0.out).size) (HGR.out _ (HWB2.out _ hF0.out)))
              have hM1 : Hid (∀ W, Below w0.heap.size w0 W → MapAt Try.prog 2 3 W M n (fun y => cntV (evs.take (j + 1)) y)) := Lib.hid (fun W h => (hM0.out.congr (fun y => by rw [hcn.out y]; unfold evMakes; simp)).below h hM0.out.lt)
              have hF1 : Hid (∀ W, Below w0.heap.size w0 W → MapF M wM W) := Lib.hid (fun W h => hF0.out.trans (.ofBelow h))
              obtain ⟨x0, x1, x2, x3, x4, x5, x6, x7⟩ := D.out _ hF0.out
              cases hlaw : lawfulV l ⟨th, xkd, bg, en, ck, pl, wt, some ⟨eb, eoff, none⟩, dc, evs⟩ a
              · have HLAW := Lib.hid hlaw
                clear hos0 hM0 hcn hkk hM1
                have hE0 := hF1
                clear hlaw
                go_wp2_with fail
                refine HCL.out.mono ?_
                rintro e w3 ⟨rfl, hb3⟩
                rw [HLAW.out]
                have F : Hid ((.tuple #[.int .i64 (k : Int), .int .i64 17] : Value) = .tuple #[.int .i64 res.1, .int .i64 res.2]) := Lib.hid (by
                  have h2 : ownB l (k : Int) = false := by rw [hown.out, hos.out, HLAW.out]; simp
                  rw [hV.out, hst.out, h2]; rfl)
                have hE := Lib.hid (HWB.out _ (hE0.out _ hb3))
                clear hV hst hos hown
                go_wp2_with fail
                refine bodyPost_ret (v := .tuple #[.int .i64 k, .int .i64 17]) (by simp [results, Try.results18, go_sem]) rfl ?_
                exact ⟨congrArg _ F.out, hE.out⟩
              · have HLAW := Lib.hid hlaw
                have hown2 : Hid (ownB l (k : Int) = ownGo l ⟨th, xkd, bg, en, ck, pl, wt, some ⟨eb, eoff, none⟩, dc, evs⟩ (evs.take (j + 1)) (evs.drop (j + 1))) := Lib.hid (by rw [hown.out, hos.out, hlaw, Bool.true_and])
                clear hos0 hM0 hcn hkk hos hown hlaw hF0
                go_wp2_with fail
                refine HCL.out.mono ?_
                rintro e w3 ⟨rfl, hb3⟩
                rw [HLAW.out]
                have hM3 := Lib.hid (hM1.out _ hb3)
                have hF3 := Lib.hid (hF1.out _ hb3)
                clear hb3
                go_wp2_with fail
                go_roundw
                case rel => exact ⟨j + 1, n, by go_num, by omega, by omega, hown2, hM3, hF3⟩
                case measure => simp [intOf]; omega
            · skip
              have hos : Hid (ownGo l ⟨th, xkd, bg, en, ck, pl, wt, some ⟨eb, eoff, none⟩, dc, evs⟩ (evs.take j) (evs.drop j) = (lawfulV l ⟨th, xkd, bg, en, ck, pl, wt, some ⟨eb, eoff, none⟩, dc, evs⟩ a && ownGo l ⟨th, xkd, bg, en, ck, pl, wt, some ⟨eb, eoff, none⟩, dc, evs⟩ (evs.take (j + 1)) (evs.drop (j + 1)))) := Lib.hid (by rw [hos0.out, if_neg (by omega), if_neg (by omega)])
              have HCL := Lib.hid (lawful_any w1.heap.size NG c (some ⟨b, off, none⟩) l th xkd bg en ck pl wt (some ⟨eb, eoff, none⟩) dc evs a hia hn hNG w0 ((HA.out _ (HWB.out _ hF0.out)).keep (Below.refl _ _) (HWB.out _ hF0.out).size) (HGR.out _ (HWB2.out _ hF0.out)))
              have hM1 : Hid (∀ W, Below w0.heap.size w0 W → MapAt Try.prog 2 3 W M n (fun y => cntV (evs.take (j + 1)) y)) := Lib.hid (fun W h => (hM0.out.congr (fun y => by rw [hcn.out y]; unfold evMakes; simp)).below h hM0.out.lt)
              have hF1 : Hid (∀ W, Below w0.heap.size w0 W → MapF M wM W) := Lib.hid (fun W h => hF0.out.trans (.ofBelow h))
              obtain ⟨x0, x1, x2, x3, x4, x5, x6, x7⟩ := D.out _ hF0.out
              cases hlaw : lawfulV l ⟨th, xkd, bg, en, ck, pl, wt, some ⟨eb, eoff, none⟩, dc, evs⟩ a
              · have HLAW := Lib.hid hlaw
                clear hos0 hM0 hcn hkk hM1
                have hE0 := hF1
                clear hlaw
                go_wp2_with fail
                refine HCL.out.mono ?_
                rintro e w3 ⟨rfl, hb3⟩
                rw [HLAW.out]
                have F : Hid ((.tuple #[.int .i64 (k : Int), .int .i64 17] : Value) = .tuple #[.int .i64 res.1, .int .i64 res.2]) := Lib.hid (by
                  have h2 : ownB l (k : Int) = false := by rw [hown.out, hos.out, HLAW.out]; simp
                  rw [hV.out, hst.out, h2]; rfl)
                have hE := Lib.hid (HWB.out _ (hE0.out _ hb3))
                clear hV hst hos hown
                go_wp2_with fail
                refine bodyPost_ret (v := .tuple #[.int .i64 k, .int .i64 17]) (by simp [results, Try.results18, go_sem]) rfl ?_
                exact ⟨congrArg _ F.out, hE.out⟩
              · have HLAW := Lib.hid hlaw
                have hown2 : Hid (ownB l (k : Int) = ownGo l ⟨th, xkd, bg, en, ck, pl, wt, some ⟨eb, eoff, none⟩, dc, evs⟩ (evs.take (j + 1)) (evs.drop (j + 1))) := Lib.hid (by rw [hown.out, hos.out, hlaw, Bool.true_and])
                clear hos0 hM0 hcn hkk hos hown hlaw hF0
                go_wp2_with fail
                refine HCL.out.mono ?_
                rintro e w3 ⟨rfl, hb3⟩
                rw [HLAW.out]
                have hM3 := Lib.hid (hM1.out _ hb3)
                have hF3 := Lib.hid (hF1.out _ hb3)
                clear hb3
                go_wp2_with fail
                go_roundw
                case rel => exact ⟨j + 1, n, by go_num, by omega, by omega, hown2, hM3, hF3⟩
                case measure => simp [intOf]; omega
          · have F : Hid (res = failV 17 (firstNot (ownB l) (k + 1) (l.length - (k + 1)))) := Lib.hid (by
              have h2 : ownB l (k : Int) = true := by rw [hown.out, show evs.drop j = [] from List.drop_eq_nil_of_le (by omega)]; rfl
              rw [hV.out, hst.out, h2, if_pos rfl])
            have hWE := Lib.hid (HWB2.out _ hF.out)
            clear hV hst hown
            go_wp2_with fail
            go_roundw
            case rel => exact ⟨k + 1, by go_num, by omega, F, hWE⟩
            case measure => simp [intOf]; omega
      · have F : Hid ((.tuple #[.int .i64 0, .int .i64 0] : Value) = .tuple #[.int .i64 res.1, .int .i64 res.2]) := Lib.hid (by
          rw [hV.out, show l.length - k = 0 by omega]; rfl)
        clear hV
        go_wp2_with fail
        refine bodyPost_ret (v := .tuple #[.int .i64 0, .int .i64 0]) (by simp [results, Try.results18, go_sem]) rfl ?_
        exact ⟨congrArg _ F.out, HW.out⟩
  · have HV : Hid (oownV l = (0, checkedV l)) := Lib.hid (by unfold oownV; rw [if_neg hck])
    have t1 : (checkedV l == 0) = false := by simpa using hck
    have t2 : (checkedV l != 0) = true := by simpa using hck
    have hcv := Lib.hid (checked_kinds l hck)
    clear ha hO
    generalize checkedV l = cv at *
    generalize oownV l = res at *
    go_enter Try.func18, Try.ntmps18
    go_wp2_with fail
    refine HC.out.mono ?_
    rintro e w1 ⟨rfl, hb1⟩
    have HB1 := Lib.hid hb1
    clear hb1
    go_wp2_with fail
    refine bodyPost_ret (v := .tuple #[.int .i64 0, .int .i64 cv]) (by simp [results, Try.results18, go_sem]) rfl ?_
    exact ⟨by rw [HV.out], HB1.out⟩
end Go.Proofs.Ytjaegddnikkibaa
