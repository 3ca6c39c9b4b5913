/-
  The reference's Heap.Done, walked.
-/
import Derived.Test.YtjaegddnikkibaaRfPut
import Derived.Test.YtjaegddnikkibaaRfFresh
set_option linter.unusedVariables false
set_option linter.unusedSimpArgs false
namespace Go.Proofs.Ytjaegddnikkibaa
open Go.RowKit Go.Sort Go.Maps

theorem HeapR.lt {w : World} {h : Nat} {cs : List (Int × Int)} (H : HeapR w h cs) : h < w.heap.size := by
  obtain ⟨v, h1, -, -⟩ := H.ex
  exact World.block_lt_of_cell? _ _ h1
theorem HeapR.below {w W : World} {h : Nat} {cs : List (Int × Int)} (H : HeapR w h cs) (hb : Below w.heap.size w W) : HeapR W h cs := by
  have hl := H.lt
  obtain ⟨v, h1, h2, h3⟩ := H.ex
  exact ⟨v, (hb.cell (p := ⟨h, 0, none⟩) hl).trans h1, (hb.frozen (p := ⟨h, 0, none⟩) hl).trans h2, own_belowI h3 hb⟩
theorem PutF.ofBelow {h : Nat} {w W : World} (hb : Below w.heap.size w W) : PutF h w W := ⟨hb.os, hb.tape, hb.output, hb.size, fun i hi _ _ => hb.block i hi⟩
theorem PutF.trans {h : Nat} {a b c : World} (h1 : PutF h a b) (h2 : PutF h b c) : PutF h a c :=
  ⟨h2.os.trans h1.os, h2.tape.trans h1.tape, h2.output.trans h1.output, Nat.le_trans h1.size h2.size, fun i hi hih hc => by
    have e := h1.block i hi hih hc
    rw [h2.block i (Nat.lt_of_lt_of_le hi h1.size) hih (hc.imp id (fun hc c fr => by rw [e]; exact hc c fr)), e]⟩
theorem PutF.cell {h : Nat} {w W : World} (hf : PutF h w W) {p : Addr} (hp : p.block < w.heap.size) (hn : p.block ≠ h) (hc : p.block ≤ h ∨ ∀ c fr, w.heap[p.block]? ≠ some (.cells c 51 fr)) : W.cell? p = w.cell? p := World.cell?_of_block (w := w) (hf.block p.block hp hn hc)
theorem rfGet_of {h : Nat} {cs : List (Int × Int)} {x : Int} {w : World} (hn : cs.length ≤ 68157440) (H : HeapR w h cs) :
    Calls Try.prog 67 #[.pointer (some ⟨h, 0, none⟩), .int .i64 x] w fun e w' => e = .returned (.int .i64 (getV cs x)) ∧ Below w.heap.size w w' := by
  obtain ⟨v, h1, -, h3⟩ := H.ex
  obtain ⟨A, cap, rfl, hc⟩ := cellsAt_own h3
  exact rfGet_any h A cap cs x hn w h1 hc

set_option maxHeartbeats 4000000 in
set_option maxRecDepth 100000 in
theorem rfDone_any (h : Nat) (cs0 : List (Int × Int)) (th kd bg en ck pl : Int) (wt : Bool) (dA : Option Addr) (dc : Nat) (evs : List Ev) (N : Nat) (hN : cs0.length ≤ N) (hNN : N + evs.length * 65 ≤ 68157440) (he : ∀ e ∈ evs, ∃ t, evB t e = true) (w : World) (hH : HeapR w h cs0) (ha : ∀ W, PutF h w W → EvsAt W W.heap.size dA evs) :
    Calls Try.prog 52 #[.pointer (some ⟨h, 0, none⟩), .agg #[.int .i64 th, .int .u8 kd, .int .i64 bg, .int .i64 en, .int .i64 ck, .int .i64 pl, .bool wt, .slice dA evs.length dc]] w fun e w' =>
      e = .returned (.bool (okV (getV cs0) evs)) ∧ (okV (getV cs0) evs = true → ∃ cs, cs.length ≤ N + evs.length * 65 ∧ HeapR w' h cs ∧ getV cs = doV (getV cs0) evs) ∧ PutF h w w' := by
  have hhl := hH.lt
  have HE := Lib.hid he
  obtain ⟨F, hF⟩ : ∃ F, getV cs0 = F := ⟨_, rfl⟩
  rw [hF]
  obtain ⟨X, hX⟩ : ∃ X, w.heap.size = X := ⟨_, rfl⟩
  obtain ⟨w0, hw0⟩ : ∃ w0, w.alloc (.cells #[.int .i64 th, .int .u8 kd, .int .i64 bg, .int .i64 en, .int .i64 ck, .int .i64 pl, .bool wt, .slice dA evs.length dc] 35 (0, 0)) = w0 := ⟨_, rfl⟩
  have HB0 : Hid (Below w.heap.size w w0) := Lib.hid (by rw [← hw0]; exact (Below.refl _ _).alloc (Nat.le_refl _) _)
  have a7 : w0.cell? ⟨X, 7, none⟩ = some (.slice dA evs.length dc) := by rw [← hw0, ← hX]; simp
  have hXl : X < w0.heap.size := by rw [← hw0, ← hX]; simp
  have hXb : w0.heap[X]? = some (.cells #[.int .i64 th, .int .u8 kd, .int .i64 bg, .int .i64 en, .int .i64 ck, .int .i64 pl, .bool wt, .slice dA evs.length dc] 35 (0, 0)) := by rw [← hw0, ← hX]; exact heap_alloc_new w _
  have hXh : X ≠ h := by omega
  have HD := Lib.hid (fun W (hf : PutF h w0 W) => (hf.cell (p := ⟨X, 7, none⟩) hXl hXh (Or.inr (fun c fr e => by rw [hXb] at e; injection e with e; injection e with _ e; exact absurd e (by decide)))).trans a7)
  have HA := Lib.hid (fun W (hf : PutF h w0 W) => ha W ((PutF.ofBelow HB0.out).trans hf))
  have HEND := Lib.hid (fun W (hf : PutF h w0 W) => (PutF.ofBelow HB0.out).trans hf)
  have HS0 := Lib.hid (hH.below HB0.out)
  have hok0 : Hid (okV F evs = okV (getV cs0) (evs.drop 0)) := Lib.hid (by rw [hF]; rfl)
  have hdo0 : Hid (doV F evs = doV (getV cs0) (evs.drop 0)) := Lib.hid (by rw [hF]; rfl)
  have HP0 : Hid (PutF h w0 w0) := Lib.hid (PutF.ofBelow (Below.refl _ _))
  have hhl0 : h < w0.heap.size := Nat.lt_of_lt_of_le hhl HB0.out.size
  clear ha he hH hF hXb hXl
  go_enter Try.func52, Try.ntmps52
  go_wp2_with fail
  clear hw0 hX a7
  go_loopw [5] (fun i wr => ∃ (k : Nat) (cs : List (Int × Int)), i = .int .i64 k ∧ k ≤ evs.length ∧ cs.length ≤ N + k * 65 ∧ Hid (okV F evs = okV (getV cs) (evs.drop k)) ∧ Hid (doV F evs = doV (getV cs) (evs.drop k)) ∧ Hid (HeapR wr h cs) ∧ Hid (PutF h w0 wr)) (fun i _ => evs.length - (intOf i).toNat)
  case atStart => exact ⟨0, cs0, rfl, Nat.zero_le _, by omega, hok0, hdo0, HS0, HP0⟩
  case round =>
    clear HS0 hok0 hdo0 HP0
    obtain ⟨k, cs, rfl, hk, hcl, hok, hdo, hH, hW⟩ := hrel
    have a7 := HD.out _ hW.out
    by_cases hlt : k < evs.length
    · obtain ⟨b, off, rfl, hbl, hc⟩ := HA.out _ hW.out (by rintro rfl; simp at hlt)
      obtain ⟨e0, e1, e2, e3⟩ := hc k _ (List.getElem?_eq_getElem hlt)
      obtain ⟨t, ht⟩ := HE.out _ (List.getElem_mem hlt)
      have hs1 := Lib.hid (okV_step (getV cs) hlt)
      have hs2 := Lib.hid (doV_step (getV cs) hlt)
      have q1 : (k : Int) < (evs.length : Int) := by omega
      have q2 : (0 : Int) ≤ (k : Int) := Int.natCast_nonneg _
      clear hc
      generalize evs[k] = ev at *
      obtain ⟨eth, ekd, ea, eb⟩ := ev
      dsimp only at *
      obtain ⟨-, hev⟩ := evB_iff.1 ht
      clear ht
      obtain ⟨V, hV⟩ : ∃ V, wr.heap.size = V := ⟨_, rfl⟩
      obtain ⟨w1, hw1⟩ : ∃ w1, wr.alloc (.cells #[.int .i64 eth, .int .u8 ekd, .int .i64 ea, .int .i64 eb] 38 (0, 0)) = w1 := ⟨_, rfl⟩
      have d1 : w1.cell? ⟨V, 1, none⟩ = some (.int .u8 ekd) := by rw [← hw1, ← hV]; simp
      have d2 : w1.cell? ⟨V, 2, none⟩ = some (.int .i64 ea) := by rw [← hw1, ← hV]; simp
      have d3 : w1.cell? ⟨V, 3, none⟩ = some (.int .i64 eb) := by rw [← hw1, ← hV]; simp
      have hVl : V < w1.heap.size := by rw [← hw1, ← hV]; simp
      have hVb : w1.heap[V]? = some (.cells #[.int .i64 eth, .int .u8 ekd, .int .i64 ea, .int .i64 eb] 38 (0, 0)) := by rw [← hw1, ← hV]; exact heap_alloc_new wr _
      have hVh : V ≠ h := by have := hH.out.lt; omega
      have hb1 : Below wr.heap.size wr w1 := by rw [← hw1]; exact (Below.refl _ _).alloc (Nat.le_refl _) _
      have hH1 := Lib.hid (hH.out.below hb1)
      have hW1 := Lib.hid (hW.out.trans (PutF.ofBelow hb1))
      have HSV := Lib.hid (fun W (hb : Below w1.heap.size w1 W) => (⟨hb, (hb.cell (p := ⟨V, 2, none⟩) hVl).trans d2, (hb.cell (p := ⟨V, 3, none⟩) hVl).trans d3⟩ : Below w1.heap.size w1 W ∧ W.cell? ⟨V, 2, none⟩ = some (.int .i64 ea) ∧ W.cell? ⟨V, 3, none⟩ = some (.int .i64 eb)))
      have HDV := Lib.hid (fun W (hf : PutF h w1 W) => (⟨(hf.cell (p := ⟨V, 2, none⟩) hVl hVh (Or.inr (fun c fr e => by rw [hVb] at e; injection e with e; injection e with _ e; exact absurd e (by decide)))).trans d2, (hf.cell (p := ⟨V, 3, none⟩) hVl hVh (Or.inr (fun c fr e => by rw [hVb] at e; injection e with e; injection e with _ e; exact absurd e (by decide)))).trans d3⟩ : W.cell? ⟨V, 2, none⟩ = some (.int .i64 ea) ∧ W.cell? ⟨V, 3, none⟩ = some (.int .i64 eb)))
      have HG := Lib.hid (fun W (hb : Below w1.heap.size w1 W) => rfGet_of (x := ea) (by omega) (hH1.out.below hb))
      have HWW := Lib.hid (fun W (hb : Below w1.heap.size w1 W) => hW1.out.trans (PutF.ofBelow hb))
      clear hb1 hVl hVb hW hH
      have hkd : ekd = 2 ∨ ekd = 4 ∨ ekd = 3 ∨ ekd = 5 ∨ ekd = 6 := by omega
      rcases hkd with rfl | rfl | rfl | rfl | rfl
      · skip
        have hok2 : Hid (okV F evs = ((getV cs ea == eb) && okV (getV cs) (evs.drop (k + 1)))) := Lib.hid (by rw [hok.out, hs1.out, if_pos (by simp), show doEv (getV cs) ⟨eth, 2, ea, eb⟩ = getV cs by unfold doEv; rw [if_neg (by simp), if_neg (by simp)]])
        have hdo2 : Hid (doV F evs = doV (getV cs) (evs.drop (k + 1))) := Lib.hid (by rw [hdo.out, hs2.out, show doEv (getV cs) ⟨eth, 2, ea, eb⟩ = getV cs by unfold doEv; rw [if_neg (by simp), if_neg (by simp)]])
        clear hok hdo hs1 hs2 hev
        by_cases hg : getV cs ea = eb
        · have t1 : (getV cs ea == eb) = true := by simpa using hg
          have t2 : (getV cs ea != eb) = false := by simpa using hg
          have t3 : decide (getV cs ea = eb) = true := by simpa using hg
          have hok3 : Hid (okV F evs = okV (getV cs) (evs.drop (k + 1))) := Lib.hid (by rw [hok2.out, t1, Bool.true_and])
          clear hok2 hg
          go_wp2_with fail
          refine wp_region_L (l := 6) (S := (fun W => Below w1.heap.size w1 W ∧ W.cell? ⟨V, 2, none⟩ = some (.int .i64 ea) ∧ W.cell? ⟨V, 3, none⟩ = some (.int .i64 eb))) (by kernel_rfl) ?_ (fun hHeld => ?_)
          · ((try dsimp only); (exact HSV.out _ (Below.refl _ _).drew))
          refine wpAnyL_take (i := 0) (oi := _) (v := ?v1) rfl (by kernel_rfl) (fun _ _ _ h => h) (by assumption) (Or.inl ⟨by kernel_rfl, ?y1⟩) ?r1
          case y1 => (intro w hSw; (try dsimp only at hSw); go_simp; all_goals with_reducible rfl)
          try simp only [Act.put, List.setIfInBounds_toArray, List.set_cons_zero, List.set_cons_succ]
          refine wpAnyL_take (i := 1) (oi := _) (v := ?v2) rfl (by kernel_rfl) (fun _ _ _ h => h) (by assumption) (Or.inl ⟨by kernel_rfl, ?y2⟩) ?r2
          case y2 => (intro w hSw; (try dsimp only at hSw); go_simp; all_goals with_reducible rfl)
          try simp only [Act.put, List.setIfInBounds_toArray, List.set_cons_zero, List.set_cons_succ]
          refine wpAnyL_take (i := 2) (oi := _) (v := ?v3) rfl (by kernel_rfl) (fun _ _ _ h => h) (by assumption) (Or.inl ⟨by kernel_rfl, ?y3⟩) ?r3
          case y3 => (intro w hSw; (try dsimp only at hSw); go_simp; all_goals with_reducible rfl)
          try simp only [Act.put, List.setIfInBounds_toArray, List.set_cons_zero, List.set_cons_succ]
          refine wpAnyL_take (i := 4) (oi := _) (v := ?v4) rfl (by kernel_rfl) (fun _ _ _ h => h) (by assumption) (Or.inl ⟨by kernel_rfl, ?y4⟩) ?r4
          case y4 => (intro w hSw; (try dsimp only at hSw); go_simp; all_goals with_reducible rfl)
          try simp only [Act.put, List.setIfInBounds_toArray, List.set_cons_zero, List.set_cons_succ]
          refine wpAnyL_take (i := 5) (oi := _) (v := ?v5) rfl (by kernel_rfl) (fun _ _ _ h => h) (by assumption) (Or.inl ⟨by kernel_rfl, ?y5⟩) ?r5
          case y5 => (intro w hSw; (try dsimp only at hSw); go_simp; all_goals with_reducible rfl)
          try simp only [Act.put, List.setIfInBounds_toArray, List.set_cons_zero, List.set_cons_succ]
          refine wpAnyL_step (j := 3) (o := _) (by kernel_rfl) rfl (fun K hK => ?_)
          (go_simp; go_at_call 67; refine (HG.out _ hHeld.1).mono ?_; rintro e w4 ⟨rfl, hb4⟩)
          refine hK _ _ ?_ (fun hHeld => ?_)
          · ((try dsimp only); (exact HSV.out _ (hHeld.1.trans (hb4.mono hHeld.1.size))))
          clear hK K
          try simp only [Act.put, List.setIfInBounds_toArray, List.set_cons_zero, List.set_cons_succ]
          refine wpAnyL_last (j := 6) (o := _) (by kernel_rfl) rfl (by rfl) (by kernel_rfl) (fun K hK => ?_)
          go_simp
          (refine hK _ _ ?_; clear hK K)
          try simp only [Act.put, List.setIfInBounds_toArray, List.set_cons_zero, List.set_cons_succ]
          have hE := Lib.hid (HWW.out _ hHeld.1)
          have hH2 := Lib.hid (hH1.out.below hHeld.1)
          clear hHeld
          go_wp2_with fail
          go_roundw
          case rel => exact ⟨k + 1, cs, by go_num, by omega, by omega, hok3, hdo2, hH2, hE⟩
          case measure => simp [intOf]; omega
        · have t1 : (getV cs ea == eb) = false := by simpa using hg
          have t2 : (getV cs ea != eb) = true := by simpa using hg
          have t3 : decide (getV cs ea = eb) = false := by simpa using hg
          have hok3 : Hid (okV F evs = false) := Lib.hid (by rw [hok2.out, t1, Bool.false_and])
          clear hok2 hg
          go_wp2_with fail
          refine wp_region_L (l := 6) (S := (fun W => Below w1.heap.size w1 W ∧ W.cell? ⟨V, 2, none⟩ = some (.int .i64 ea) ∧ W.cell? ⟨V, 3, none⟩ = some (.int .i64 eb))) (by kernel_rfl) ?_ (fun hHeld => ?_)
          · ((try dsimp only); (exact HSV.out _ (Below.refl _ _).drew))
          refine wpAnyL_take (i := 0) (oi := _) (v := ?v8) rfl (by kernel_rfl) (fun _ _ _ h => h) (by assumption) (Or.inl ⟨by kernel_rfl, ?y8⟩) ?r8
          case y8 => (intro w hSw; (try dsimp only at hSw); go_simp; all_goals with_reducible rfl)
          try simp only [Act.put, List.setIfInBounds_toArray, List.set_cons_zero, List.set_cons_succ]
          refine wpAnyL_take (i := 1) (oi := _) (v := ?v9) rfl (by kernel_rfl) (fun _ _ _ h => h) (by assumption) (Or.inl ⟨by kernel_rfl, ?y9⟩) ?r9
          case y9 => (intro w hSw; (try dsimp only at hSw); go_simp; all_goals with_reducible rfl)
          try simp only [Act.put, List.setIfInBounds_toArray, List.set_cons_zero, List.set_cons_succ]
          refine wpAnyL_take (i := 2) (oi := _) (v := ?v10) rfl (by kernel_rfl) (fun _ _ _ h => h) (by assumption) (Or.inl ⟨by kernel_rfl, ?y10⟩) ?r10
          case y10 => (intro w hSw; (try dsimp only at hSw); go_simp; all_goals with_reducible rfl)
          try simp only [Act.put, List.setIfInBounds_toArray, List.set_cons_zero, List.set_cons_succ]
          refine wpAnyL_take (i := 4) (oi := _) (v := ?v11) rfl (by kernel_rfl) (fun _ _ _ h => h) (by assumption) (Or.inl ⟨by kernel_rfl, ?y11⟩) ?r11
          case y11 => (intro w hSw; (try dsimp only at hSw); go_simp; all_goals with_reducible rfl)
          try simp only [Act.put, List.setIfInBounds_toArray, List.set_cons_zero, List.set_cons_succ]
          refine wpAnyL_take (i := 5) (oi := _) (v := ?v12) rfl (by kernel_rfl) (fun _ _ _ h => h) (by assumption) (Or.inl ⟨by kernel_rfl, ?y12⟩) ?r12
          case y12 => (intro w hSw; (try dsimp only at hSw); go_simp; all_goals with_reducible rfl)
          try simp only [Act.put, List.setIfInBounds_toArray, List.set_cons_zero, List.set_cons_succ]
          refine wpAnyL_step (j := 3) (o := _) (by kernel_rfl) rfl (fun K hK => ?_)
          (go_simp; go_at_call 67; refine (HG.out _ hHeld.1).mono ?_; rintro e w4 ⟨rfl, hb4⟩)
          refine hK _ _ ?_ (fun hHeld => ?_)
          · ((try dsimp only); (exact HSV.out _ (hHeld.1.trans (hb4.mono hHeld.1.size))))
          clear hK K
          try simp only [Act.put, List.setIfInBounds_toArray, List.set_cons_zero, List.set_cons_succ]
          refine wpAnyL_last (j := 6) (o := _) (by kernel_rfl) rfl (by rfl) (by kernel_rfl) (fun K hK => ?_)
          go_simp
          (refine hK _ _ ?_; clear hK K)
          try simp only [Act.put, List.setIfInBounds_toArray, List.set_cons_zero, List.set_cons_succ]
          have hE := Lib.hid (HWW.out _ hHeld.1)
          clear hHeld
          go_wp2_with fail
          go_ret
          exact ⟨by rw [hok3.out]; first | done | rfl, (fun h' => by rw [hok3.out] at h'; cases h'), HEND.out _ hE.out⟩
      · skip
        have hok2 : Hid (okV F evs = ((getV cs ea == eb) && okV (getV cs) (evs.drop (k + 1)))) := Lib.hid (by rw [hok.out, hs1.out, if_pos (by simp), show doEv (getV cs) ⟨eth, 4, ea, eb⟩ = getV cs by unfold doEv; rw [if_neg (by simp), if_neg (by simp)]])
        have hdo2 : Hid (doV F evs = doV (getV cs) (evs.drop (k + 1))) := Lib.hid (by rw [hdo.out, hs2.out, show doEv (getV cs) ⟨eth, 4, ea, eb⟩ = getV cs by unfold doEv; rw [if_neg (by simp), if_neg (by simp)]])
        clear hok hdo hs1 hs2 hev
        by_cases hg : getV cs ea = eb
        · have t1 : (getV cs ea == eb) = true := by simpa using hg
          have t2 : (getV cs ea != eb) = false := by simpa using hg
          have t3 : decide (getV cs ea = eb) = true := by simpa using hg
          have hok3 : Hid (okV F evs = okV (getV cs) (evs.drop (k + 1))) := Lib.hid (by rw [hok2.out, t1, Bool.true_and])
          clear hok2 hg
          go_wp2_with fail
          refine wp_region_L (l := 6) (S := (fun W => Below w1.heap.size w1 W ∧ W.cell? ⟨V, 2, none⟩ = some (.int .i64 ea) ∧ W.cell? ⟨V, 3, none⟩ = some (.int .i64 eb))) (by kernel_rfl) ?_ (fun hHeld => ?_)
          · ((try dsimp only); (exact HSV.out _ (Below.refl _ _).drew))
          refine wpAnyL_take (i := 0) (oi := _) (v := ?v15) rfl (by kernel_rfl) (fun _ _ _ h => h) (by assumption) (Or.inl ⟨by kernel_rfl, ?y15⟩) ?r15
          case y15 => (intro w hSw; (try dsimp only at hSw); go_simp; all_goals with_reducible rfl)
          try simp only [Act.put, List.setIfInBounds_toArray, List.set_cons_zero, List.set_cons_succ]
          refine wpAnyL_take (i := 1) (oi := _) (v := ?v16) rfl (by kernel_rfl) (fun _ _ _ h => h) (by assumption) (Or.inl ⟨by kernel_rfl, ?y16⟩) ?r16
          case y16 => (intro w hSw; (try dsimp only at hSw); go_simp; all_goals with_reducible rfl)
          try simp only [Act.put, List.setIfInBounds_toArray, List.set_cons_zero, List.set_cons_succ]
          refine wpAnyL_take (i := 2) (oi := _) (v := ?v17) rfl (by kernel_rfl) (fun _ _ _ h => h) (by assumption) (Or.inl ⟨by kernel_rfl, ?y17⟩) ?r17
          case y17 => (intro w hSw; (try dsimp only at hSw); go_simp; all_goals with_reducible rfl)
          try simp only [Act.put, List.setIfInBounds_toArray, List.set_cons_zero, List.set_cons_succ]
          refine wpAnyL_take (i := 4) (oi := _) (v := ?v18) rfl (by kernel_rfl) (fun _ _ _ h => h) (by assumption) (Or.inl ⟨by kernel_rfl, ?y18⟩) ?r18
          case y18 => (intro w hSw; (try dsimp only at hSw); go_simp; all_goals with_reducible rfl)
          try simp only [Act.put, List.setIfInBounds_toArray, List.set_cons_zero, List.set_cons_succ]
          refine wpAnyL_take (i := 5) (oi := _) (v := ?v19) rfl (by kernel_rfl) (fun _ _ _ h => h) (by assumption) (Or.inl ⟨by kernel_rfl, ?y19⟩) ?r19
          case y19 => (intro w hSw; (try dsimp only at hSw); go_simp; all_goals with_reducible rfl)
          try simp only [Act.put, List.setIfInBounds_toArray, List.set_cons_zero, List.set_cons_succ]
          refine wpAnyL_step (j := 3) (o := _) (by kernel_rfl) rfl (fun K hK => ?_)
          (go_simp; go_at_call 67; refine (HG.out _ hHeld.1).mono ?_; rintro e w4 ⟨rfl, hb4⟩)
          refine hK _ _ ?_ (fun hHeld => ?_)
          · ((try dsimp only); (exact HSV.out _ (hHeld.1.trans (hb4.mono hHeld.1.size))))
          clear hK K
          try simp only [Act.put, List.setIfInBounds_toArray, List.set_cons_zero, List.set_cons_succ]
          refine wpAnyL_last (j := 6) (o := _) (by kernel_rfl) rfl (by rfl) (by kernel_rfl) (fun K hK => ?_)
          go_simp
          (refine hK _ _ ?_; clear hK K)
          try simp only [Act.put, List.setIfInBounds_toArray, List.set_cons_zero, List.set_cons_succ]
          have hE := Lib.hid (HWW.out _ hHeld.1)
          have hH2 := Lib.hid (hH1.out.below hHeld.1)
          clear hHeld
          go_wp2_with fail
          go_roundw
          case rel => exact ⟨k + 1, cs, by go_num, by omega, by omega, hok3, hdo2, hH2, hE⟩
          case measure => simp [intOf]; omega
        · have t1 : (getV cs ea == eb) = false := by simpa using hg
          have t2 : (getV cs ea != eb) = true := by simpa using hg
          have t3 : decide (getV cs ea = eb) = false := by simpa using hg
          have hok3 : Hid (okV F evs = false) := Lib.hid (by rw [hok2.out, t1, Bool.false_and])
          clear hok2 hg
          go_wp2_with fail
          refine wp_region_L (l := 6) (S := (fun W => Below w1.heap.size w1 W ∧ W.cell? ⟨V, 2, none⟩ = some (.int .i64 ea) ∧ W.cell? ⟨V, 3, none⟩ = some (.int .i64 eb))) (by kernel_rfl) ?_ (fun hHeld => ?_)
          · ((try dsimp only); (exact HSV.out _ (Below.refl _ _).drew))
          refine wpAnyL_take (i := 0) (oi := _) (v := ?v22) rfl (by kernel_rfl) (fun _ _ _ h => h) (by assumption) (Or.inl ⟨by kernel_rfl, ?y22⟩) ?r22
          case y22 => (intro w hSw; (try dsimp only at hSw); go_simp; all_goals with_reducible rfl)
          try simp only [Act.put, List.setIfInBounds_toArray, List.set_cons_zero, List.set_cons_succ]
          refine wpAnyL_take (i := 1) (oi := _) (v := ?v23) rfl (by kernel_rfl) (fun _ _ _ h => h) (by assumption) (Or.inl ⟨by kernel_rfl, ?y23⟩) ?r23
          case y23 => (intro w hSw; (try dsimp only at hSw); go_simp; all_goals with_reducible rfl)
          try simp only [Act.put, List.setIfInBounds_toArray, List.set_cons_zero, List.set_cons_succ]
          refine wpAnyL_take (i := 2) (oi := _) (v := ?v24) rfl (by kernel_rfl) (fun _ _ _ h => h) (by assumption) (Or.inl ⟨by kernel_rfl, ?y24⟩) ?r24
          case y24 => (intro w hSw; (try dsimp only at hSw); go_simp; all_goals with_reducible rfl)
          try simp only [Act.put, List.setIfInBounds_toArray, List.set_cons_zero, List.set_cons_succ]
          refine wpAnyL_take (i := 4) (oi := _) (v := ?v25) rfl (by kernel_rfl) (fun _ _ _ h => h) (by assumption) (Or.inl ⟨by kernel_rfl, ?y25⟩) ?r25
          case y25 => (intro w hSw; (try dsimp only at hSw); go_simp; all_goals with_reducible rfl)
          try simp only [Act.put, List.setIfInBounds_toArray, List.set_cons_zero, List.set_cons_succ]
          refine wpAnyL_take (i := 5) (oi := _) (v := ?v26) rfl (by kernel_rfl) (fun _ _ _ h => h) (by assumption) (Or.inl ⟨by kernel_rfl, ?y26⟩) ?r26
          case y26 => (intro w hSw; (try dsimp only at hSw); go_simp; all_goals with_reducible rfl)
          try simp only [Act.put, List.setIfInBounds_toArray, List.set_cons_zero, List.set_cons_succ]
          refine wpAnyL_step (j := 3) (o := _) (by kernel_rfl) rfl (fun K hK => ?_)
          (go_simp; go_at_call 67; refine (HG.out _ hHeld.1).mono ?_; rintro e w4 ⟨rfl, hb4⟩)
          refine hK _ _ ?_ (fun hHeld => ?_)
          · ((try dsimp only); (exact HSV.out _ (hHeld.1.trans (hb4.mono hHeld.1.size))))
          clear hK K
          try simp only [Act.put, List.setIfInBounds_toArray, List.set_cons_zero, List.set_cons_succ]
          refine wpAnyL_last (j := 6) (o := _) (by kernel_rfl) rfl (by rfl) (by kernel_rfl) (fun K hK => ?_)
          go_simp
          (refine hK _ _ ?_; clear hK K)
          try simp only [Act.put, List.setIfInBounds_toArray, List.set_cons_zero, List.set_cons_succ]
          have hE := Lib.hid (HWW.out _ hHeld.1)
          clear hHeld
          go_wp2_with fail
          go_ret
          exact ⟨by rw [hok3.out]; first | done | rfl, (fun h' => by rw [hok3.out] at h'; cases h'), HEND.out _ hE.out⟩
      · skip
        have hgp : getV (putV ea eb cs) = doEv (getV cs) ⟨eth, 3, ea, eb⟩ := funext (fun y => by rw [getV_put]; unfold doEv; rw [if_pos (show (3 : Int) = 3 ∨ (3 : Int) = 5 by simp)])
        have hok3 : Hid (okV F evs = okV (getV (putV ea eb cs)) (evs.drop (k + 1))) := Lib.hid (by rw [hok.out, hs1.out, if_neg (by simp), Bool.true_and, hgp])
        have hdo3 : Hid (doV F evs = doV (getV (putV ea eb cs)) (evs.drop (k + 1))) := Lib.hid (by rw [hdo.out, hs2.out, hgp])
        have hlen := putV_len ea eb cs
        have hPT := Lib.hid (rfPut_any h cs ea eb (by omega) w1 hH1.out)
        clear hok hdo hs1 hs2 hev hgp
        go_wp2_with fail
        refine hPT.out.mono ?_
        rintro e w2 ⟨rfl, hH3, hP3⟩
        have hH3 := Lib.hid hH3
        have hP3 := Lib.hid (hW1.out.trans hP3)
        clear hPT
        go_wp2_with fail
        go_roundw
        case rel => exact ⟨k + 1, _, by go_num, by omega, by omega, hok3, hdo3, hH3, hP3⟩
        case measure => simp [intOf]; omega
      · skip
        have hgp : getV (putV ea eb cs) = doEv (getV cs) ⟨eth, 5, ea, eb⟩ := funext (fun y => by rw [getV_put]; unfold doEv; rw [if_pos (show (5 : Int) = 3 ∨ (5 : Int) = 5 by simp)])
        have hok3 : Hid (okV F evs = okV (getV (putV ea eb cs)) (evs.drop (k + 1))) := Lib.hid (by rw [hok.out, hs1.out, if_neg (by simp), Bool.true_and, hgp])
        have hdo3 : Hid (doV F evs = doV (getV (putV ea eb cs)) (evs.drop (k + 1))) := Lib.hid (by rw [hdo.out, hs2.out, hgp])
        have hlen := putV_len ea eb cs
        have hPT := Lib.hid (rfPut_any h cs ea eb (by omega) w1 hH1.out)
        clear hok hdo hs1 hs2 hev hgp
        go_wp2_with fail
        refine hPT.out.mono ?_
        rintro e w2 ⟨rfl, hH3, hP3⟩
        have hH3 := Lib.hid hH3
        have hP3 := Lib.hid (hW1.out.trans hP3)
        clear hPT
        go_wp2_with fail
        go_roundw
        case rel => exact ⟨k + 1, _, by go_num, by omega, by omega, hok3, hdo3, hH3, hP3⟩
        case measure => simp [intOf]; omega
      · have hgd : doEv (getV cs) ⟨eth, 6, ea, eb⟩ = fun y => if ea ≤ y ∧ y < ea + eb then 0 else getV cs y := by unfold doEv; rw [if_neg (by simp), if_pos rfl]
        have hok2 : Hid (okV F evs = okV (fun y => if ea ≤ y ∧ y < ea + eb then 0 else getV cs y) (evs.drop (k + 1))) := Lib.hid (by rw [hok.out, hs1.out, if_neg (by simp), Bool.true_and, hgd])
        have hdo2 : Hid (doV F evs = doV (fun y => if ea ≤ y ∧ y < ea + eb then 0 else getV cs y) (evs.drop (k + 1))) := Lib.hid (by rw [hdo.out, hs2.out, hgd])
        obtain ⟨b0, b1, b2⟩ : 0 ≤ eb ∧ eb ≤ 64 ∧ ea + eb ≤ 262144 := by omega
        obtain ⟨a0, a1⟩ : 0 ≤ ea ∧ ea < 262144 := by omega
        have hS2 : Hid (getV cs = fun y => if ea ≤ y ∧ y < ea + ((0 : Nat) : Int) then 0 else getV cs y) := Lib.hid (funext fun y => by rw [if_neg (by omega)])
        have hP1 : Hid (PutF h w1 w1) := Lib.hid (PutF.ofBelow (Below.refl _ _))
        clear hok hdo hs1 hs2 hev hgd
        go_wp2_with fail
        clear hw1 hV d1 d2 d3 e0 e1 e2 e3
        obtain ⟨wo, rfl⟩ : ∃ wo : World, wo = wr := ⟨_, rfl⟩
        go_loopw [7] (fun i wr => ∃ (q : Nat) (cs2 : List (Int × Int)), i = .int .i64 q ∧ (q : Int) ≤ eb ∧ cs2.length ≤ cs.length + q ∧ Hid (getV cs2 = fun y => if ea ≤ y ∧ y < ea + (q : Int) then 0 else getV cs y) ∧ Hid (HeapR wr h cs2) ∧ Hid (PutF h w1 wr)) (fun i _ => eb.toNat - (intOf i).toNat)
        case atStart => exact ⟨0, cs, rfl, by omega, by omega, hS2, hH1, hP1⟩
        case round =>
          clear hS2 hH1 hP1
          obtain ⟨q, cs2, rfl, hq, hcl2, hG2, hH2, hP2⟩ := hrel
          obtain ⟨d2, d3⟩ := HDV.out _ hP2.out
          by_cases hqb : (q : Int) < eb
          · have p1 : (0 : Int) ≤ (q : Int) := Int.natCast_nonneg _
            have hwr : IntKind.i64.wrap (ea + (q : Int)) = ea + (q : Int) := by rw [IntKind.wrap_i64]; omega
            have t1 : decide ((q : Int) < eb) = true := by simp; omega
            have hPT := Lib.hid (rfPut_any h cs2 (ea + (q : Int)) 0 (by omega) wr hH2.out)
            have hG3 : Hid (getV (putV (ea + (q : Int)) 0 cs2) = fun y => if ea ≤ y ∧ y < ea + ((q + 1 : Nat) : Int) then 0 else getV cs y) := Lib.hid (funext fun y => by
              rw [getV_put, hG2.out]
              dsimp only
              by_cases h1 : y = ea + (q : Int)
              · rw [if_pos h1, if_pos (by omega)]
              · rw [if_neg h1]
                by_cases h2 : ea ≤ y ∧ y < ea + (q : Int)
                · rw [if_pos h2, if_pos (by omega)]
                · rw [if_neg h2, if_neg (by omega)])
            have hlen := putV_len (ea + (q : Int)) 0 cs2
            clear hG2 hH2
            go_wp2_with fail
            refine hPT.out.mono ?_
            rintro e w2 ⟨rfl, hH3, hP3⟩
            have hH3 := Lib.hid hH3
            have hP3 := Lib.hid (hP2.out.trans hP3)
            clear hPT
            go_wp2_with fail
            go_roundw
            case rel => exact ⟨q + 1, _, by go_num, by omega, by omega, hG3, hH3, hP3⟩
            case measure => simp [intOf]; omega
          · have hqe : (q : Int) = eb := by omega
            have t1 : decide ((q : Int) < eb) = false := by simp; omega
            have hok3 : Hid (okV F evs = okV (getV cs2) (evs.drop (k + 1))) := Lib.hid (by rw [hok2.out, hG2.out, hqe])
            have hdo3 : Hid (doV F evs = doV (getV cs2) (evs.drop (k + 1))) := Lib.hid (by rw [hdo2.out, hG2.out, hqe])
            have hE := Lib.hid (hW1.out.trans hP2.out)
            clear hok2 hdo2 hG2 hqe hP2
            go_wp2_with fail
            go_roundw
            case rel => exact ⟨k + 1, cs2, by go_num, by omega, by omega, hok3, hdo3, hH2, hE⟩
            case measure => simp [intOf]; omega
    · have hF : Hid (okV F evs = true) := Lib.hid (by rw [hok.out, List.drop_eq_nil_of_le (by omega)]; rfl)
      have hG : Hid (getV cs = doV F evs) := Lib.hid (by rw [hdo.out, List.drop_eq_nil_of_le (by omega)]; rfl)
      have hcl2 : cs.length ≤ N + evs.length * 65 := by omega
      clear hok hdo
      go_wp2_with fail
      go_ret
      exact ⟨by rw [hF.out]; first | done | rfl, fun _ => ⟨cs, hcl2, hH.out, hG.out⟩, HEND.out _ hW.out⟩
end Go.Proofs.Ytjaegddnikkibaa
