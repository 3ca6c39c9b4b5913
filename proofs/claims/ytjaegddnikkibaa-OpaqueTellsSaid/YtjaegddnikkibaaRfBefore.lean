/-
  The second reference's before, walked.
-/
import Derived.Test.YtjaegddnikkibaaRfDone
import Derived.Test.YtjaegddnikkibaaOwnKit
import Derived.BigQuiet
set_option linter.unusedVariables false
set_option linter.unusedSimpArgs false
namespace Go.Proofs.Ytjaegddnikkibaa
open Go.RowKit Go.Sort Go.Maps

theorem PutF.below {h : Nat} {w W : World} (hf : PutF h w W) (hh : h ≤ w.heap.size) : Below h w W :=
  ⟨hf.os, hf.tape, hf.output, hf.size, fun i hi => hf.block i (Nat.lt_of_lt_of_le hi hh) (Nat.ne_of_lt hi) (Or.inl (Nat.le_of_lt hi))⟩

set_option maxHeartbeats 4000000 in
set_option maxRecDepth 100000 in
theorem rfBefore_any (A O : Option Addr) (c oc n : Nat) (l : List Att) (o : List Int) (hn : n < l.length) (hl : l.length ≤ 1048576) (hol : o.length ≤ 1048576) (hsum : evSum l o ≤ 1048576) (hE : ∀ x ∈ l, ∀ e ∈ x.evs, ∃ t, evB t e = true)
    (hr : ∀ i ∈ o, ∃ j : Nat, i = j ∧ j < l.length) (w : World) (ha : AttsAt w w.heap.size A l) (hi : IntsAt w O o) :
    Calls Try.prog 51 #[.slice A l.length c, .slice O o.length oc, .int .i64 n] w fun e w' =>
      e = .returned (.pointer (some ⟨w.heap.size, 0, none⟩)) ∧ (∃ cs, cs.length ≤ 65 * evSum l o ∧ HeapR w' w.heap.size cs ∧ getV cs = heapV l o n) ∧ Below w.heap.size w w' := by
  have HA := Lib.hid (fun W (h : Below w.heap.size w W) => ha.keep h (Nat.le_refl _))
  have HI := Lib.hid (fun W (h : Below w.heap.size w W) => hi.keep h)
  have HE := Lib.hid hE
  have HR := Lib.hid hr
  obtain ⟨b, off, rfl, -, -⟩ := ha.row (by rintro rfl; simp at hn)
  have HY := Lib.hid (fun W (h : Below w.heap.size w W) => ((HA.out W h).at (List.getElem?_eq_getElem hn)).c4)
  have hyn := Lib.hid (attN_get hn)
  obtain ⟨F9, hF9⟩ : ∃ F9, heapV l o n = F9 := ⟨_, rfl⟩
  rw [hF9]
  have HF9 : Hid ((o.take o.length).foldl (heapStep l n) (fun _ => 0) = F9) := Lib.hid (by rw [List.take_length]; exact hF9)
  have HS0 : Hid (getV [] = (o.take 0).foldl (heapStep l n) (fun _ => 0)) := Lib.hid rfl
  obtain ⟨h, hh⟩ : ∃ h, w.heap.size = h := ⟨_, rfl⟩
  rw [hh]
  obtain ⟨w1, hw1⟩ : ∃ w1, w.alloc (.cells #[.slice none 0 0] 93 (0, 0)) = w1 := ⟨_, rfl⟩
  have HH1 : Hid (HeapR w1 h []) := Lib.hid ⟨.slice none 0 0, by rw [← hw1, ← hh]; simp, by rw [← hw1, ← hh]; simp, by simp, .inl ⟨rfl, rfl⟩⟩
  have HW1 : Hid (Below w.heap.size w w1) := Lib.hid (by rw [← hw1]; exact (Below.refl _ _).alloc (Nat.le_refl _) _)
  have HHS := Lib.hid hh
  obtain ⟨yck, hyck⟩ : ∃ yck, l[n].ck = yck := ⟨_, rfl⟩
  rw [hyck] at HY
  have hyn : Hid ((attN l (n : Int)).ck = yck) := Lib.hid (by rw [hyn.out, hyck])
  have p1 : (n : Int) < (l.length : Int) := by omega
  have p2 : (0 : Int) ≤ (n : Int) := Int.natCast_nonneg _
  clear ha hi hE hr hyck hF9
  go_enter Try.func51, Try.ntmps51
  go_wp2_with fail
  clear hw1 hh
  go_loopw [8] (fun i wr => ∃ (k : Nat) (cs : List (Int × Int)), i = .int .i64 k ∧ k ≤ o.length ∧ cs.length ≤ 65 * evSum l (o.take k) ∧ Hid (getV cs = (o.take k).foldl (heapStep l n) (fun _ => 0)) ∧ Hid (HeapR wr h cs) ∧ Hid (Below w.heap.size w wr)) (fun i _ => o.length - (intOf i).toNat)
  case atStart => exact ⟨0, [], rfl, Nat.zero_le _, by simp, HS0, HH1, HW1⟩
  case round =>
    clear HS0 HH1 HW1
    obtain ⟨k, cs, rfl, hk, hcl, hG, hH, hW⟩ := hrel
    by_cases hlt : k < o.length
    · obtain ⟨g, goff, rfl, hgl, hgc⟩ := HI.out _ hW.out (by rintro rfl; simp at hlt)
      obtain ⟨j, hj, hjl⟩ := HR.out _ (List.getElem_mem hlt)
      have e1 := hgc k _ (List.getElem?_eq_getElem hlt)
      have hst := Lib.hid (heap_take l n o hlt)
      have hso : Hid (evSum l (o.take (k + 1)) = evSum l (o.take k) + (attN l o[k]).evs.length) := Lib.hid (by
        rw [List.take_succ_eq_append_getElem hlt, evSum_append]; rfl)
      rw [hj] at e1 hst hso
      rw [attN_get hjl] at hso
      have hHF : Hid (heapStep l n ((o.take k).foldl (heapStep l n) (fun _ => 0)) (j : Int) = if (j : Int) ≠ n ∧ l[j].pl ≤ yck then doV ((o.take k).foldl (heapStep l n) (fun _ => 0)) l[j].evs else (o.take k).foldl (heapStep l n) (fun _ => 0)) := Lib.hid (by unfold heapStep; rw [attN_get hjl, hyn.out])
      have HEX := Lib.hid (HE.out _ (List.getElem_mem hjl))
      have HEV := Lib.hid (fun W (hb : Below w.heap.size w W) => (HA.out W hb).evs _ (List.getElem_mem hjl))
      have htot : evSum l (o.take (k + 1)) ≤ 1048576 := Nat.le_trans (evSum_take l o (k + 1)) hsum
      have e1b : ∀ W, Below wr.heap.size wr W → W.cell? ⟨g, goff + k, none⟩ = some (.int .i64 (j : Int)) := fun W hb => (hb.cell (p := ⟨g, goff + k, none⟩) hgl).trans e1
      have q1 : (k : Int) < (o.length : Int) := by omega
      have q2 : (0 : Int) ≤ (k : Int) := Int.natCast_nonneg _
      have q3 : (j : Int) < (l.length : Int) := by omega
      have q4 : (0 : Int) ≤ (j : Int) := Int.natCast_nonneg _
      obtain ⟨c0, c1, c2, c3, c4, c5, c6, c7⟩ := (HA.out _ hW.out).at (List.getElem?_eq_getElem hjl)
      clear hgc hj
      generalize l[j] = x at *
      obtain ⟨th, kd, bg, en, ck, pl, wt, dA, dc, evs⟩ := x
      dsimp only at *
      obtain ⟨X, hX⟩ : ∃ X, wr.heap.size = X := ⟨_, rfl⟩
      obtain ⟨w0, hw0⟩ : ∃ w0, wr.alloc (.cells #[.int .i64 th, .int .u8 kd, .int .i64 bg, .int .i64 en, .int .i64 ck, .int .i64 pl, .bool wt, .slice dA evs.length dc] 35 (0, 0)) = w0 := ⟨_, rfl⟩
      have hb0 : Below wr.heap.size wr w0 := by rw [← hw0]; exact (Below.refl _ _).alloc (Nat.le_refl _) _
      have hW0 := Lib.hid (hW.out.trans (hb0.mono hW.out.size))
      have hH0 := Lib.hid (hH.out.below hb0)
      have y4 := HY.out _ hW0.out
      have e1 := e1b w0 hb0
      have hXl : X < w0.heap.size := by rw [← hw0, ← hX]; simp
      have hXb : w0.heap[X]? = some (.cells #[.int .i64 th, .int .u8 kd, .int .i64 bg, .int .i64 en, .int .i64 ck, .int .i64 pl, .bool wt, .slice dA evs.length dc] 35 (0, 0)) := by rw [← hw0, ← hX]; exact heap_alloc_new wr _
      have hXh : X ≠ h := by have := hH.out.lt; omega
      have d5 : w0.cell? ⟨X, 5, none⟩ = some (.int .i64 pl) := by rw [← hw0, ← hX]; simp
      have d7 : w0.cell? ⟨X, 7, none⟩ = some (.slice dA evs.length dc) := by rw [← hw0, ← hX]; simp
      have HD := Lib.hid (fun W (hf : PutF h w0 W) => (hf.cell (p := ⟨X, 7, none⟩) hXl hXh (Or.inr (fun c fr e => by rw [hXb] at e; injection e with e; injection e with _ e; exact absurd e (by decide)))).trans d7)
      have hhw : h ≤ w0.heap.size := Nat.le_of_lt hH0.out.lt
      have HBW : Hid (∀ W, PutF h w0 W → Below w.heap.size w W) := Lib.hid (fun W hf => hW0.out.trans (by rw [HHS.out]; exact hf.below hhw))
      clear hXb hb0 e1b hW hH
      by_cases r1 : j = n
      · have t1 : decide ((j : Int) = (n : Int)) = true := decide_eq_true (by omega)
        have t1b : ((j : Int) == (n : Int)) = true := by rw [beq_iff_eq]; omega
        have hG2 : Hid (getV cs = (o.take (k + 1)).foldl (heapStep l n) (fun _ => 0)) := Lib.hid (by rw [hst.out, hHF.out, if_neg (fun h => h.1 (by omega))]; exact hG.out)
        have hlen : cs.length ≤ 65 * evSum l (o.take (k + 1)) := by have := hso.out; omega
        clear HEX HEV HD HBW d7 r1
        clear hst hso hHF hG
        go_wp2_with fail
        clear hw0 hX c0 c1 c2 c3 c4 c5 c6 c7
        go_quiet (fail)
        go_wp2_with fail
        go_roundw
        case rel => exact ⟨k + 1, cs, by go_num, by omega, hlen, hG2, Lib.hid (hH0.out.below (below_drewN (Below.refl _ _) _)), Lib.hid (below_drewN hW0.out _)⟩
        case measure => simp [intOf]; omega
      · have t1 : decide ((j : Int) = (n : Int)) = false := decide_eq_false (by omega)
        have t1b : ((j : Int) == (n : Int)) = false := by rw [beq_eq_false_iff_ne]; omega
        by_cases r2 : yck < pl
        · have t2 : decide (yck < pl) = true := by simpa using r2
          have hG2 : Hid (getV cs = (o.take (k + 1)).foldl (heapStep l n) (fun _ => 0)) := Lib.hid (by rw [hst.out, hHF.out, if_neg (fun h => by have := h.2; omega)]; exact hG.out)
          have hlen : cs.length ≤ 65 * evSum l (o.take (k + 1)) := by have := hso.out; omega
          clear HEX HEV HD HBW d7 r1 r2
          clear hst hso hHF hG
          go_wp2_with fail
          clear hw0 hX c0 c1 c2 c3 c4 c5 c6 c7
          go_quiet (fail)
          go_wp2_with fail
          go_roundw
          case rel => exact ⟨k + 1, cs, by go_num, by omega, hlen, hG2, Lib.hid (hH0.out.below (below_drewN (Below.refl _ _) _)), Lib.hid (below_drewN hW0.out _)⟩
          case measure => simp [intOf]; omega
        · have t2 : decide (yck < pl) = false := by simp; omega
          obtain ⟨F, hF⟩ : ∃ F, (o.take k).foldl (heapStep l n) (fun _ => 0) = F := ⟨_, rfl⟩
          rw [hF] at hG hHF hst
          have hFIN : Hid (doV F evs = (o.take (k + 1)).foldl (heapStep l n) (fun _ => 0)) := Lib.hid (by rw [hst.out, hHF.out, if_pos ⟨by omega, by omega⟩])
          obtain ⟨N, hN⟩ : ∃ N, 65 * evSum l (o.take k) = N := ⟨_, rfl⟩
          rw [hN] at hcl
          have hNT : N + evs.length * 65 = 65 * evSum l (o.take (k + 1)) := by have := hso.out; omega
          have hG0 : Hid (doV F evs = doV (getV cs) (evs.drop 0)) := Lib.hid (by rw [hG.out]; rfl)
          have HPB := Lib.hid (fun q : Nat => PutF.ofBelow (h := h) (below_drewN (Below.refl w0.heap.size w0) q))
          have HHB := Lib.hid (fun q : Nat => hH0.out.below (below_drewN (Below.refl w0.heap.size w0) q))
          have HD2 := Lib.hid (fun q : Nat => HD.out _ (HPB.out q))
          clear hst hso hHF hG hF hN r1 r2 hH0 hW0 d7
          go_wp2_with fail
          clear hw0 hX c0 c1 c2 c3 c4 c5 c6 c7
          go_quiet (fail)
          clear t1 t1b t2 y4 d5 e1
          go_wp2_with fail
          obtain ⟨cs0, hcs0⟩ : ∃ cs0, cs0 = cs := ⟨_, rfl⟩
          obtain ⟨ko, hko⟩ : ∃ ko, ko = k := ⟨_, rfl⟩
          go_loopw [10] (fun i wr => ∃ (q : Nat) (cs : List (Int × Int)), i = .int .i64 q ∧ q ≤ evs.length ∧ cs.length ≤ N + q * 65 ∧ Hid (doV F evs = doV (getV cs) (evs.drop q)) ∧ Hid (HeapR wr h cs) ∧ Hid (PutF h w0 wr)) (fun i _ => evs.length - (intOf i).toNat)
          case atStart => exact ⟨0, cs, rfl, Nat.zero_le _, by omega, hG0, Lib.hid (HHB.out _), Lib.hid (HPB.out _)⟩
          case round =>
            clear hG0 HPB HHB HD2 hcs0 hko
            obtain ⟨q, cs, rfl, hq, hcl, hG, hH, hP⟩ := hrel
            have a7 := HD.out _ hP.out
            by_cases hql : q < evs.length
            · obtain ⟨b2, off2, rfl, hbl, hc⟩ := HEV.out _ (HBW.out _ hP.out) (by rintro rfl; simp at hql)
              obtain ⟨e0, e1, e2, e3⟩ := hc q _ (List.getElem?_eq_getElem hql)
              obtain ⟨t, ht⟩ := HEX.out _ (List.getElem_mem hql)
              have hst := Lib.hid (doV_step (getV cs) hql)
              have s1 : (q : Int) < (evs.length : Int) := by omega
              have s2 : (0 : Int) ≤ (q : Int) := Int.natCast_nonneg _
              clear hc
              generalize evs[q] = ev at *
              obtain ⟨eth, ekd, ea, eb⟩ := ev
              dsimp only at *
              have hev := ht
              obtain ⟨-, hev2⟩ := evB_iff.1 ht
              clear ht
              obtain ⟨V, hV⟩ : ∃ V, wr.heap.size = V := ⟨_, rfl⟩
              obtain ⟨w1, hw1⟩ : ∃ w1, wr.alloc (.cells #[.int .i64 eth, .int .u8 ekd, .int .i64 ea, .int .i64 eb] 38 (0, 0)) = w1 := ⟨_, rfl⟩
              have v0 : w1.cell? ⟨V, 0, none⟩ = some (.int .i64 eth) := by rw [← hw1, ← hV]; simp
              have v1 : w1.cell? ⟨V, 1, none⟩ = some (.int .u8 ekd) := by rw [← hw1, ← hV]; simp
              have v2 : w1.cell? ⟨V, 2, none⟩ = some (.int .i64 ea) := by rw [← hw1, ← hV]; simp
              have v3 : w1.cell? ⟨V, 3, none⟩ = some (.int .i64 eb) := by rw [← hw1, ← hV]; simp
              have hb1 : Below wr.heap.size wr w1 := by rw [← hw1]; exact (Below.refl _ _).alloc (Nat.le_refl _) _
              have hH1 := Lib.hid (hH.out.below hb1)
              have hP1 := Lib.hid (hP.out.trans (PutF.ofBelow hb1))
              clear hb1 hP hH
              have hkd : ekd = 2 ∨ ekd = 4 ∨ ekd = 3 ∨ ekd = 5 ∨ ekd = 6 := by omega
              clear hev2
              rcases hkd with rfl | rfl | rfl | rfl | rfl
              · skip
                have hG3 : Hid (doV F evs = doV (getV cs) (evs.drop (q + 1))) := Lib.hid (by rw [hG.out, hst.out, show doEv (getV cs) ⟨eth, 2, ea, eb⟩ = getV cs by unfold doEv; rw [if_neg (by simp), if_neg (by simp)]])
                clear hst hG hev
                go_wp2_with fail
                go_roundw
                case rel => exact ⟨q + 1, cs, by go_num, by omega, by omega, hG3, hH1, Lib.hid (hP1.out)⟩
                case measure => simp [intOf]; omega
              · skip
                have hG3 : Hid (doV F evs = doV (getV cs) (evs.drop (q + 1))) := Lib.hid (by rw [hG.out, hst.out, show doEv (getV cs) ⟨eth, 4, ea, eb⟩ = getV cs by unfold doEv; rw [if_neg (by simp), if_neg (by simp)]])
                clear hst hG hev
                go_wp2_with fail
                go_roundw
                case rel => exact ⟨q + 1, cs, by go_num, by omega, by omega, hG3, hH1, Lib.hid (hP1.out)⟩
                case measure => simp [intOf]; omega
              · skip
                have hnr : okV (getV cs) [⟨eth, 3, ea, eb⟩] = true := by unfold okV; rw [if_neg (by simp)]; rfl
                have hG3 : Hid (∀ cs2, getV cs2 = doV (getV cs) [⟨eth, 3, ea, eb⟩] → doV F evs = doV (getV cs2) (evs.drop (q + 1))) := Lib.hid (fun cs2 h => by rw [hG.out, hst.out, h]; rfl)
                obtain ⟨G, hGn⟩ : ∃ G, w1.heap.size = G := ⟨_, rfl⟩
                obtain ⟨w2, hw2⟩ : ∃ w2, w1.alloc (.cells #[.int .i64 eth, .int .u8 3, .int .i64 ea, .int .i64 eb] 38 (0, 0)) = w2 := ⟨_, rfl⟩
                have hb2 : Below w1.heap.size w1 w2 := by rw [← hw2]; exact (Below.refl _ _).alloc (Nat.le_refl _) _
                have g0 : w2.cell? ⟨G, 0, none⟩ = some (.int .i64 eth) := by rw [← hw2, ← hGn]; simp
                have g1 : w2.cell? ⟨G, 1, none⟩ = some (.int .u8 3) := by rw [← hw2, ← hGn]; simp
                have g2 : w2.cell? ⟨G, 2, none⟩ = some (.int .i64 ea) := by rw [← hw2, ← hGn]; simp
                have g3 : w2.cell? ⟨G, 3, none⟩ = some (.int .i64 eb) := by rw [← hw2, ← hGn]; simp
                have hGl : G < w2.heap.size := by rw [← hw2, ← hGn]; simp
                have hGb : w2.heap[G]? = some (.cells #[.int .i64 eth, .int .u8 3, .int .i64 ea, .int .i64 eb] 38 (0, 0)) := by rw [← hw2, ← hGn]; exact heap_alloc_new w1 _
                have hGh : G ≠ h := by have := hH1.out.lt; omega
                have hH2 := Lib.hid (hH1.out.below hb2)
                have hP2 := Lib.hid (hP1.out.trans (PutF.ofBelow hb2))
                have hEV : ∀ W, PutF h w2 W → EvsAt W W.heap.size (some ⟨G, 0, none⟩) [⟨eth, 3, ea, eb⟩] := fun W hf _ => by
                  have key : ∀ j v, w2.cell? ⟨G, j, none⟩ = some v → W.cell? ⟨G, j, none⟩ = some v := fun j v hv => (hf.cell (p := ⟨G, j, none⟩) hGl hGh (Or.inr (fun c fr e => by rw [hGb] at e; injection e with e; injection e with _ e; exact absurd e (by decide)))).trans hv
                  refine ⟨G, 0, rfl, Nat.lt_of_lt_of_le hGl hf.size, fun m e hm => ?_⟩
                  match m, hm with
                  | 0, hm => injection hm with hm; subst hm; exact ⟨key 0 _ g0, key 1 _ g1, key 2 _ g2, key 3 _ g3⟩
                  | m + 1, hm => simp at hm
                have HDN : Hid (Calls Try.prog 52 #[.pointer (some ⟨h, 0, none⟩), .agg #[.int .i64 0, .int .u8 0, .int .i64 0, .int .i64 0, .int .i64 0, .int .i64 0, .bool false, .slice (some ⟨G, 0, none⟩) 1 1]] w2 fun e w' =>
                    e = .returned (.bool (okV (getV cs) [⟨eth, 3, ea, eb⟩])) ∧ (okV (getV cs) [⟨eth, 3, ea, eb⟩] = true → ∃ cs', cs'.length ≤ N + q * 65 + 1 * 65 ∧ HeapR w' h cs' ∧ getV cs' = doV (getV cs) [⟨eth, 3, ea, eb⟩]) ∧ PutF h w2 w') := Lib.hid
                  (rfDone_any h cs 0 0 0 0 0 0 false (some ⟨G, 0, none⟩) 1 [⟨eth, 3, ea, eb⟩] (N + q * 65) hcl (by show N + q * 65 + 1 * 65 ≤ 68157440; omega) (fun e he => by rw [List.mem_singleton.1 he]; exact ⟨t, hev⟩) w2 hH2.out hEV)
                rw [hnr] at HDN
                clear hst hG hev hEV g0 g1 g2 g3 hGl hGb hGh hb2 hnr
                go_wp2_with fail
                clear hw2 hGn
                refine HDN.out.mono ?_
                rintro e w3 ⟨rfl, hH3, hP3⟩
                obtain ⟨cs2, hl2, hH3, hg3⟩ := hH3 trivial
                have hH3 := Lib.hid hH3
                have hG4 := Lib.hid (hG3.out cs2 hg3)
                have hP3 := Lib.hid (hP2.out.trans hP3)
                clear HDN hG3 hg3
                go_wp2_with fail
                go_roundw
                case rel => exact ⟨q + 1, cs2, by go_num, by omega, by omega, hG4, hH3, hP3⟩
                case measure => simp [intOf]; omega
              · skip
                have hnr : okV (getV cs) [⟨eth, 5, ea, eb⟩] = true := by unfold okV; rw [if_neg (by simp)]; rfl
                have hG3 : Hid (∀ cs2, getV cs2 = doV (getV cs) [⟨eth, 5, ea, eb⟩] → doV F evs = doV (getV cs2) (evs.drop (q + 1))) := Lib.hid (fun cs2 h => by rw [hG.out, hst.out, h]; rfl)
                obtain ⟨G, hGn⟩ : ∃ G, w1.heap.size = G := ⟨_, rfl⟩
                obtain ⟨w2, hw2⟩ : ∃ w2, w1.alloc (.cells #[.int .i64 eth, .int .u8 5, .int .i64 ea, .int .i64 eb] 38 (0, 0)) = w2 := ⟨_, rfl⟩
                have hb2 : Below w1.heap.size w1 w2 := by rw [← hw2]; exact (Below.refl _ _).alloc (Nat.le_refl _) _
                have g0 : w2.cell? ⟨G, 0, none⟩ = some (.int .i64 eth) := by rw [← hw2, ← hGn]; simp
                have g1 : w2.cell? ⟨G, 1, none⟩ = some (.int .u8 5) := by rw [← hw2, ← hGn]; simp
                have g2 : w2.cell? ⟨G, 2, none⟩ = some (.int .i64 ea) := by rw [← hw2, ← hGn]; simp
                have g3 : w2.cell? ⟨G, 3, none⟩ = some (.int .i64 eb) := by rw [← hw2, ← hGn]; simp
                have hGl : G < w2.heap.size := by rw [← hw2, ← hGn]; simp
                have hGb : w2.heap[G]? = some (.cells #[.int .i64 eth, .int .u8 5, .int .i64 ea, .int .i64 eb] 38 (0, 0)) := by rw [← hw2, ← hGn]; exact heap_alloc_new w1 _
                have hGh : G ≠ h := by have := hH1.out.lt; omega
                have hH2 := Lib.hid (hH1.out.below hb2)
                have hP2 := Lib.hid (hP1.out.trans (PutF.ofBelow hb2))
                have hEV : ∀ W, PutF h w2 W → EvsAt W W.heap.size (some ⟨G, 0, none⟩) [⟨eth, 5, ea, eb⟩] := fun W hf _ => by
                  have key : ∀ j v, w2.cell? ⟨G, j, none⟩ = some v → W.cell? ⟨G, j, none⟩ = some v := fun j v hv => (hf.cell (p := ⟨G, j, none⟩) hGl hGh (Or.inr (fun c fr e => by rw [hGb] at e; injection e with e; injection e with _ e; exact absurd e (by decide)))).trans hv
                  refine ⟨G, 0, rfl, Nat.lt_of_lt_of_le hGl hf.size, fun m e hm => ?_⟩
                  match m, hm with
                  | 0, hm => injection hm with hm; subst hm; exact ⟨key 0 _ g0, key 1 _ g1, key 2 _ g2, key 3 _ g3⟩
                  | m + 1, hm => simp at hm
                have HDN : Hid (Calls Try.prog 52 #[.pointer (some ⟨h, 0, none⟩), .agg #[.int .i64 0, .int .u8 0, .int .i64 0, .int .i64 0, .int .i64 0, .int .i64 0, .bool false, .slice (some ⟨G, 0, none⟩) 1 1]] w2 fun e w' =>
                    e = .returned (.bool (okV (getV cs) [⟨eth, 5, ea, eb⟩])) ∧ (okV (getV cs) [⟨eth, 5, ea, eb⟩] = true → ∃ cs', cs'.length ≤ N + q * 65 + 1 * 65 ∧ HeapR w' h cs' ∧ getV cs' = doV (getV cs) [⟨eth, 5, ea, eb⟩]) ∧ PutF h w2 w') := Lib.hid
                  (rfDone_any h cs 0 0 0 0 0 0 false (some ⟨G, 0, none⟩) 1 [⟨eth, 5, ea, eb⟩] (N + q * 65) hcl (by show N + q * 65 + 1 * 65 ≤ 68157440; omega) (fun e he => by rw [List.mem_singleton.1 he]; exact ⟨t, hev⟩) w2 hH2.out hEV)
                rw [hnr] at HDN
                clear hst hG hev hEV g0 g1 g2 g3 hGl hGb hGh hb2 hnr
                go_wp2_with fail
                clear hw2 hGn
                refine HDN.out.mono ?_
                rintro e w3 ⟨rfl, hH3, hP3⟩
                obtain ⟨cs2, hl2, hH3, hg3⟩ := hH3 trivial
                have hH3 := Lib.hid hH3
                have hG4 := Lib.hid (hG3.out cs2 hg3)
                have hP3 := Lib.hid (hP2.out.trans hP3)
                clear HDN hG3 hg3
                go_wp2_with fail
                go_roundw
                case rel => exact ⟨q + 1, cs2, by go_num, by omega, by omega, hG4, hH3, hP3⟩
                case measure => simp [intOf]; omega
              · skip
                have hnr : okV (getV cs) [⟨eth, 6, ea, eb⟩] = true := by unfold okV; rw [if_neg (by simp)]; rfl
                have hG3 : Hid (∀ cs2, getV cs2 = doV (getV cs) [⟨eth, 6, ea, eb⟩] → doV F evs = doV (getV cs2) (evs.drop (q + 1))) := Lib.hid (fun cs2 h => by rw [hG.out, hst.out, h]; rfl)
                obtain ⟨G, hGn⟩ : ∃ G, w1.heap.size = G := ⟨_, rfl⟩
                obtain ⟨w2, hw2⟩ : ∃ w2, w1.alloc (.cells #[.int .i64 eth, .int .u8 6, .int .i64 ea, .int .i64 eb] 38 (0, 0)) = w2 := ⟨_, rfl⟩
                have hb2 : Below w1.heap.size w1 w2 := by rw [← hw2]; exact (Below.refl _ _).alloc (Nat.le_refl _) _
                have g0 : w2.cell? ⟨G, 0, none⟩ = some (.int .i64 eth) := by rw [← hw2, ← hGn]; simp
                have g1 : w2.cell? ⟨G, 1, none⟩ = some (.int .u8 6) := by rw [← hw2, ← hGn]; simp
                have g2 : w2.cell? ⟨G, 2, none⟩ = some (.int .i64 ea) := by rw [← hw2, ← hGn]; simp
                have g3 : w2.cell? ⟨G, 3, none⟩ = some (.int .i64 eb) := by rw [← hw2, ← hGn]; simp
                have hGl : G < w2.heap.size := by rw [← hw2, ← hGn]; simp
                have hGb : w2.heap[G]? = some (.cells #[.int .i64 eth, .int .u8 6, .int .i64 ea, .int .i64 eb] 38 (0, 0)) := by rw [← hw2, ← hGn]; exact heap_alloc_new w1 _
                have hGh : G ≠ h := by have := hH1.out.lt; omega
                have hH2 := Lib.hid (hH1.out.below hb2)
                have hP2 := Lib.hid (hP1.out.trans (PutF.ofBelow hb2))
                have hEV : ∀ W, PutF h w2 W → EvsAt W W.heap.size (some ⟨G, 0, none⟩) [⟨eth, 6, ea, eb⟩] := fun W hf _ => by
                  have key : ∀ j v, w2.cell? ⟨G, j, none⟩ = some v → W.cell? ⟨G, j, none⟩ = some v := fun j v hv => (hf.cell (p := ⟨G, j, none⟩) hGl hGh (Or.inr (fun c fr e => by rw [hGb] at e; injection e with e; injection e with _ e; exact absurd e (by decide)))).trans hv
                  refine ⟨G, 0, rfl, Nat.lt_of_lt_of_le hGl hf.size, fun m e hm => ?_⟩
                  match m, hm with
                  | 0, hm => injection hm with hm; subst hm; exact ⟨key 0 _ g0, key 1 _ g1, key 2 _ g2, key 3 _ g3⟩
                  | m + 1, hm => simp at hm
                have HDN : Hid (Calls Try.prog 52 #[.pointer (some ⟨h, 0, none⟩), .agg #[.int .i64 0, .int .u8 0, .int .i64 0, .int .i64 0, .int .i64 0, .int .i64 0, .bool false, .slice (some ⟨G, 0, none⟩) 1 1]] w2 fun e w' =>
                    e = .returned (.bool (okV (getV cs) [⟨eth, 6, ea, eb⟩])) ∧ (okV (getV cs) [⟨eth, 6, ea, eb⟩] = true → ∃ cs', cs'.length ≤ N + q * 65 + 1 * 65 ∧ HeapR w' h cs' ∧ getV cs' = doV (getV cs) [⟨eth, 6, ea, eb⟩]) ∧ PutF h w2 w') := Lib.hid
                  (rfDone_any h cs 0 0 0 0 0 0 false (some ⟨G, 0, none⟩) 1 [⟨eth, 6, ea, eb⟩] (N + q * 65) hcl (by show N + q * 65 + 1 * 65 ≤ 68157440; omega) (fun e he => by rw [List.mem_singleton.1 he]; exact ⟨t, hev⟩) w2 hH2.out hEV)
                rw [hnr] at HDN
                clear hst hG hev hEV g0 g1 g2 g3 hGl hGb hGh hb2 hnr
                go_wp2_with fail
                clear hw2 hGn
                refine HDN.out.mono ?_
                rintro e w3 ⟨rfl, hH3, hP3⟩
                obtain ⟨cs2, hl2, hH3, hg3⟩ := hH3 trivial
                have hH3 := Lib.hid hH3
                have hG4 := Lib.hid (hG3.out cs2 hg3)
                have hP3 := Lib.hid (hP2.out.trans hP3)
                clear HDN hG3 hg3
                go_wp2_with fail
                go_roundw
                case rel => exact ⟨q + 1, cs2, by go_num, by omega, by omega, hG4, hH3, hP3⟩
                case measure => simp [intOf]; omega
            · have hG4 : Hid (getV cs = (o.take (k + 1)).foldl (heapStep l n) (fun _ => 0)) := Lib.hid (by rw [← hFIN.out, hG.out, List.drop_eq_nil_of_le (by omega)]; rfl)
              have hE := Lib.hid (HBW.out _ hP.out)
              have hlen : cs.length ≤ 65 * evSum l (o.take (k + 1)) := by omega
              clear hG hP
              go_wp2_with fail
              go_roundw
              case rel => exact ⟨k + 1, cs, by go_num, by omega, hlen, hG4, hH, hE⟩
              case measure => simp [intOf]; omega
    · have hke : k = o.length := by omega
      subst hke
      have hG2 : Hid (getV cs = F9) := Lib.hid (by rw [hG.out, HF9.out])
      have hcl2 : cs.length ≤ 65 * evSum l o := by rwa [List.take_length] at hcl
      have HHS2 := HHS.out
      clear hG
      go_wp2_with fail
      go_ret
      exact ⟨rfl, ⟨cs, hcl2, hH.out, hG2.out⟩, by first | exact hW.out | (rw [← HHS.out]; exact hW.out)⟩
end Go.Proofs.Ytjaegddnikkibaa
