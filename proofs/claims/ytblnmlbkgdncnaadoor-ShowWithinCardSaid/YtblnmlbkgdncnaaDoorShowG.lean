/-
  show: a list of statements, written.
-/
import Derived.Test.YtblnmlbkgdncnaaDoorShowF
set_option linter.unusedVariables false
set_option linter.unusedSimpArgs false
namespace Go.Proofs.YtblnmlbkgdncnaaDoor
open Go.RowKit

theorem chkSts_all : ∀ (l : List St) (deep : Nat) (a a' : At), chkSts l deep a = .on a' → ∀ s ∈ l, ∃ b b', chkSt s deep b = .on b'
  | [], _, _, _, _, s, hs => by simp at hs
  | x :: r, deep, a, a', h, s, hs => by
    obtain ⟨a1, h1, h2⟩ := chkSts_on h
    rcases List.mem_cons.1 hs with rfl | hs
    · exact ⟨_, _, h1⟩
    · exact chkSts_all r deep a1 a' h2 s hs

set_option maxHeartbeats 16000000 in
set_option maxRecDepth 100000 in
theorem slist_any (Bb : Nat) (wB : World) (HG : Hid (∀ W, Below Bb wB W → Globs W)) : ∀ (sz : Nat) (l : List St), stCounts l ≤ sz → ∀ (d : Hd), StsIn wB Bb d l → (∃ deep a a', chkSts l deep a = .on a') → ListC Bb wB d l := by
  intro sz
  induction sz using Nat.strongRecOn with
  | ind sz ih =>
  intro l hsz0 d hI hg ind t W h hi hl
  obtain ⟨R, hR⟩ : ∃ R, wSts t l ind = R := ⟨_, rfl⟩
  rw [hR]
  have HR := Lib.hid hR
  have HI := Lib.hid hI
  have HGd := Lib.hid hg
  have HIn := Lib.hid hi
  have O0 := Lib.hid (TxOut.refl h)
  have HL0 := Lib.hid hl
  clear hR hI hg hi h hl
  go_enter Tryd.func47, Tryd.ntmps47
  go_wp2_with fail
  go_loopw [10] (fun ii wr => ∃ (j : Nat) (acc : List UInt8), ii = .int .i64 j ∧ j ≤ l.length ∧ Hid (TxOut Bb wB acc W wr) ∧ Hid (wSts acc (l.drop j) ind = R) ∧ Hid (acc.length + (stTexts (l.drop j) ind).length ≤ 140737488355328)) (fun ii _ => l.length - (intOf ii).toNat)
  case atStart => exact ⟨0, t, rfl, Nat.zero_le _, O0, Lib.hid (by rw [List.drop_zero]; exact HR.out), Lib.hid (by rw [List.drop_zero]; exact HL0.out)⟩
  case round =>
    obtain ⟨j, acc, rfl, hj, HO, hC, hL⟩ := hrel
    clear O0 HL0
    have p2 : (0 : Int) ≤ (j : Int) := Int.natCast_nonneg _
    have p3 : l.length ≤ 140737488355328 := HI.out.len
    by_cases hlt : j < l.length
    · obtain ⟨s, hs⟩ : ∃ s, l[j]? = some s := ⟨_, List.getElem?_eq_getElem hlt⟩
      have hdrop : l.drop j = s :: l.drop (j + 1) := by
        have := List.drop_eq_getElem_cons hlt
        rw [List.getElem?_eq_getElem hlt] at hs
        injection hs with hs
        rw [this, hs]
      have hIr := HI.out.keep HO.out.st.bel (Nat.le_refl Bb)
      obtain ⟨rb, ro, hda, hrb, hrow⟩ := hIr.row (by intro h0; rw [h0] at hlt; simp at hlt)
      have hsa := hrow j s hs
      have hmem := List.mem_of_getElem? hs
      have hsI := HI.out.sub s hmem
      have hsc : stCount s ≤ stCounts l := stCounts_mem hmem
      have hgs : ∃ deep a a', chkSt s deep a = .on a' := by
        obtain ⟨dp, a, a', hg⟩ := HGd.out
        obtain ⟨b, b', hb⟩ := chkSts_all l dp a a' hg s hmem
        exact ⟨dp, b, b', hb⟩
      have hcb : stCounts s.body < stCount s ∧ stCounts s.els < stCount s := by
        obtain ⟨k, nm, ty, x, y, bd, body, ed, els⟩ := s
        rw [stCount]
        simp only [St.body, St.els]
        omega
      have HStm : Hid (∀ (acc' : List UInt8) (W' : World), TxSt Bb wB acc' W' → acc'.length + (stText s ind).length ≤ 140737488355328 → Calls Tryd.prog 63 #[.pointer (some ⟨Bb, 0, none⟩), s.val, .string ⟨ind.toArray⟩] W' fun e w' => e = .returned (.tuple #[]) ∧ TxOut Bb wB (wSt acc' s ind) W' w') := Lib.hid fun acc' W' h' hl' => by
        obtain ⟨dp, a, a', hg⟩ := hgs
        have g := chkSt_on hg
        obtain ⟨a2, a3, hb, he⟩ := g.lists
        exact sstmt_any Bb wB HG s hsI ⟨dp, a, a', hg⟩ (ih _ (by omega) s.body (Nat.le_refl _) s.bd hsI.body ⟨_, _, _, hb⟩) (ih _ (by omega) s.els (Nat.le_refl _) s.ed hsI.els ⟨_, _, _, he⟩) ind acc' W' h' (by have := HIn.out; omega) hl'
      have hC1 := Lib.hid hC.out
      have hL1 := Lib.hid hL.out
      rw [hdrop, wSts] at hC1
      rw [hdrop, stTexts] at hL1
      have hws := Lib.hid (wSt_is (acc ++ ind) s ind).2
      obtain ⟨k, nm, ty, x, y, bd, body, ed, els⟩ := s
      have hz := hsa.cells
      clear hsa
      dsimp only [St.val, St.k, St.nm, St.t, St.x, St.y, St.bd, St.body, St.ed, St.els] at hz HStm
      obtain ⟨X6, hX6⟩ : ∃ X6, wr.heap.size = X6 := ⟨_, rfl⟩
      obtain ⟨w6, hw6⟩ : ∃ w6, wr.alloc (stObj k nm ty x y bd.a body.length bd.c ed.a els.length ed.c) = w6 := ⟨_, rfl⟩
      have hb6 : Below wr.heap.size wr w6 := by rw [← hw6]; exact (Below.refl _ _).alloc (Nat.le_refl _) _
      have x6 : w6.heap[X6]? = some (stObj k nm ty x y bd.a body.length bd.c ed.a els.length ed.c) := by rw [← hw6, ← hX6]; exact heap_alloc_new wr _
      have hX6B : X6 ≠ Bb := by have := HO.out.st.lt; omega
      have O6 := Lib.hid (HO.out.below hb6)
      have HRow : Hid (∀ W', Stay Bb w6 W' → W'.heap[X6]? = some (stObj k nm ty x y bd.a body.length bd.c ed.a els.length ed.c)) := Lib.hid fun W' hs => hs X6 _ x6 hX6B (stObj_ne _ _ _ _ _ _ _ _ _ _ _)
      have HNm := Lib.hid (And.intro hX6 hw6)
      have p1 : (j : Int) < (l.length : Int) := by omega
      have CLn := Lib.hid (wlen_any Bb Bb acc w6 O6.out.st.wr)
      clear hb6 x6 hrow hIr hdrop hs hX6 hw6 hsc hcb hgs hsI hmem hX6B hC hL ih HO
      rw [hda]
      go_wp2_with (first | (refine wpList_load_list rfl 61 _ rfl _ rfl (stCells k nm ty x y bd.a body.length bd.c ed.a els.length ed.c) _ hz Tryd.underlying61 rfl (stSize ..) ?_) | (refine wpList_store_row rfl 61 _ _ rfl wr.heap.size (stCells k nm ty x y bd.a body.length bd.c ed.a els.length ed.c).toArray rfl rfl 61 _ (heap_alloc_new wr _) (stSizeA ..) rfl (stOne ..) ?_; rw [alloc_setRow _ _ _ _ _ rfl]))
      simp only [HNm.out.1, HNm.out.2]
      clear hz
      refine CLn.out.mono ?_
      rintro e w7 ⟨rfl, hw7⟩
      rw [hw7]
      clear hw7
      by_cases hbig : 65536 < acc.length
      · have d1 : decide ((65536 : Int) < (acc.length : Int)) = true := by simp; omega
        obtain rfl : acc = R := by have h := hC1.out; rw [if_pos hbig] at h; exact h
        clear hbig
        go_wp2_with fail
        refine bodyPost_ret (results_none rfl _ _ _) rfl ?_
        exact ⟨rfl, O6.out⟩
      · have d1 : decide ((65536 : Int) < (acc.length : Int)) = false := by simp; omega
        have HC2 : Hid (wSts (wSt (acc ++ ind) (.mk k nm ty x y bd body ed els) ind ++ [10]) (l.drop (j + 1)) ind = R) := Lib.hid (by have h := hC1.out; rw [if_neg hbig] at h; exact h)
        clear hbig
        go_wp2_with fail
        refine (put_any' Bb wB acc ind _ rfl w6 O6.out.st (by have := hL1.out; simp at this ⊢; omega)).mono ?_
        rintro e w8 ⟨rfl, hO⟩
        have O8 := Lib.hid (O6.out.trans hO)
        have hz := row_cells (vs := stCells k nm ty x y bd.a body.length bd.c ed.a els.length ed.c) (HRow.out _ hO.stay)
        clear hO d1
        go_wp2_with (refine wpList_load_list rfl 61 _ rfl _ rfl (stCells k nm ty x y bd.a body.length bd.c ed.a els.length ed.c) _ hz Tryd.underlying61 rfl (stSize ..) ?_)
        clear hz
        refine (HStm.out (acc ++ ind) w8 O8.out.st (by have := hL1.out; simp at this ⊢; omega)).mono ?_
        rintro e w9 ⟨rfl, hO⟩
        have O9 := Lib.hid (O8.out.trans hO)
        clear hO
        have HL9 : Hid ((wSt (acc ++ ind) (.mk k nm ty x y bd body ed els) ind).length + 1 + (stTexts (l.drop (j + 1)) ind).length ≤ 140737488355328) := Lib.hid (by have h1 := hL1.out; have h2 := hws.out; simp at h1 h2 ⊢; omega)
        generalize wSt (acc ++ ind) (.mk k nm ty x y bd body ed els) ind = ws at *
        clear hL1 hws hC1
        go_wp2_with fail
        refine (put_any' Bb wB ws [10] _ rfl w9 O9.out.st (by have := HL9.out; simp; omega)).mono ?_
        rintro e wx ⟨rfl, hO⟩
        have OX := Lib.hid (O9.out.trans hO)
        have HLX : Hid ((ws ++ [10]).length + (stTexts (l.drop (j + 1)) ind).length ≤ 140737488355328) := Lib.hid (by have := HL9.out; simp; omega)
        clear hO
        go_wp2_with fail
        go_roundw
        case rel => exact ⟨j + 1, _, by go_num, by omega, OX, HC2, HLX⟩
        case measure => simp [intOf]; omega
    · obtain rfl : j = l.length := by omega
      obtain rfl : acc = R := by have h := hC.out; rw [List.drop_length, wSts] at h; exact h
      go_wp2_with fail
      go_end0
      exact ⟨rfl, HO.out⟩
end Go.Proofs.YtblnmlbkgdncnaaDoor
