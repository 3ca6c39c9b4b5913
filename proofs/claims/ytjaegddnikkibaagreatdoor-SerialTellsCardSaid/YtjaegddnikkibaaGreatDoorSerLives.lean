/-
  Law 29's lives: closed attempts, their check; changes; last.
-/
import Derived.Test.YtjaegddnikkibaaGreatDoorSerChk2
import Derived.Test.YtjaegddnikkibaaGreatDoorChkPlain
set_option linter.unusedVariables false
set_option linter.unusedSimpArgs false
namespace Go.Proofs.YtjaegddnikkibaaGreatDoor
open Go.RowKit Go.Sort Go.Maps

theorem scheck_is {b c : Nat} (l : List Att) (r1 r2 : Int) (hr : scheckV l = (r1, r2)) (hn : l.length ≤ 1048576) (ho : l.all okAttB = true) {W : World} {t : TypeId} {fr : Nat × Nat} (hb : W.heap[b]? = some (.cells (l.flatMap Att.cells).toArray t fr)) (he : ∀ x ∈ l, EvsAt W W.heap.size x.dA x.evs) :
    Calls Tryz.prog 8 #[.slice (some ⟨b, 0, none⟩) l.length c] W fun e w' => e = .returned (.tuple #[.int .i64 r1, .int .i64 r2]) ∧ Below W.heap.size W w' :=
  (scheck_any _ c l hn (ok_of ho) W (attsAt_of hb he)).mono fun e w' h => ⟨by rw [h.1, hr], h.2⟩

set_option maxHeartbeats 400000 in
theorem read_any (a b : Int) (w : World) : Calls Tryz.prog 123 #[.int .i64 a, .int .i64 b] w fun e w' => e = .returned (.agg #[.int .i64 0, .int .u8 2, .int .i64 a, .int .i64 b]) ∧ Below w.heap.size w w' := by
  have hB := Lib.hid (fun o => (Below.refl w.heap.size w).alloc (Nat.le_refl _) o)
  go_enter Tryz.func123, Tryz.ntmps123
  go_wp2_with fail
  refine bodyPost_ret (v := .agg #[.int .i64 0, .int .u8 2, .int .i64 a, .int .i64 b]) (by simp [results, Tryz.results123, go_sem]) rfl ?_
  exact ⟨rfl, hB.out _⟩
set_option maxHeartbeats 400000 in
theorem write_any (a b : Int) (w : World) : Calls Tryz.prog 122 #[.int .i64 a, .int .i64 b] w fun e w' => e = .returned (.agg #[.int .i64 0, .int .u8 3, .int .i64 a, .int .i64 b]) ∧ Below w.heap.size w w' := by
  have hB := Lib.hid (fun o => (Below.refl w.heap.size w).alloc (Nat.le_refl _) o)
  go_enter Tryz.func122, Tryz.ntmps122
  go_wp2_with fail
  refine bodyPost_ret (v := .agg #[.int .i64 0, .int .u8 3, .int .i64 a, .int .i64 b]) (by simp [results, Tryz.results122, go_sem]) rfl ?_
  exact ⟨rfl, hB.out _⟩

/-- did, of one event -/
theorem did29_post (w : World) (B : Nat) (th kd a b : Int) (hlt : B < w.heap.size) (h : EvAt w B 0 ⟨0, kd, a, b⟩) : Hid (∀ o, EvAt ((w.setCell ⟨B, 0, none⟩ (.int .i64 th)).alloc o) B 0 ⟨th, kd, a, b⟩) ∧ Hid (∀ o, MapF B w ((w.setCell ⟨B, 0, none⟩ (.int .i64 th)).alloc o)) := by
  obtain ⟨c0, c1, c2, c3⟩ := h
  have hE1 : EvAt (w.setCell ⟨B, 0, none⟩ (.int .i64 th)) B 0 ⟨th, kd, a, b⟩ := ⟨World.cell?_setCell_same _ _ _ c0, (World.cell?_setCell_other _ _ _ _ (by simp)).trans c1, (World.cell?_setCell_other _ _ _ _ (by simp)).trans c2, (World.cell?_setCell_other _ _ _ _ (by simp)).trans c3⟩
  exact ⟨Lib.hid (fun o => hE1.keep fun o' => ((Below.refl (w.setCell ⟨B, 0, none⟩ (.int .i64 th)).heap.size _).alloc (Nat.le_refl _) o).cell (p := ⟨B, o', none⟩) (by simpa using hlt)),
    Lib.hid (fun o => MapF.alloc (w := w.setCell ⟨B, 0, none⟩ (.int .i64 th)) (⟨rfl, rfl, rfl, by simp, fun k hk hm => heap_setCell_other _ _ k _ (fun e => hm (by simpa using e))⟩ : MapF B w (w.setCell ⟨B, 0, none⟩ (.int .i64 th))) o)⟩
set_option maxHeartbeats 1000000 in
theorem did29_any (th bg en ck pl : Int) (wt : Bool) (B : Nat) (eth kd a b : Int) (w : World) (c0 : w.cell? ⟨B, 0, none⟩ = some (.int .i64 eth)) (hf : w.frozen? ⟨B, 0, none⟩ = false)
    (HE : Hid (∀ o, EvAt ((w.setCell ⟨B, 0, none⟩ (.int .i64 th)).alloc o) B 0 ⟨th, kd, a, b⟩)) (HM : Hid (∀ o, MapF B w ((w.setCell ⟨B, 0, none⟩ (.int .i64 th)).alloc o))) :
    Calls Tryz.prog 121 #[.int .i64 th, .int .i64 bg, .int .i64 en, .int .i64 ck, .int .i64 pl, .bool wt, .slice (some ⟨B, 0, none⟩) 1 1] w fun e w' =>
    e = .returned (.agg #[.int .i64 th, .int .u8 1, .int .i64 bg, .int .i64 en, .int .i64 ck, .int .i64 pl, .bool wt, .slice (some ⟨B, 0, none⟩) 1 1]) ∧ EvAt w' B 0 ⟨th, kd, a, b⟩ ∧ MapF B w w' := by
  have hlt := World.block_lt_of_cell? _ _ c0
  have X1 : w.heap.size ≠ B := fun e => by rw [e] at hlt; exact Nat.lt_irrefl _ hlt
  go_enter Tryz.func121, Tryz.ntmps121
  go_wp2
  refine wp_loop_rounds 2 ?_
  rw [rounds_succ]
  go_wp2
  rw [rounds_succ]
  go_wp2
  refine bodyPost_ret (v := .agg #[.int .i64 th, .int .u8 1, .int .i64 bg, .int .i64 en, .int .i64 ck, .int .i64 pl, .bool wt, .slice (some ⟨B, 0, none⟩) 1 1]) (by simp [results, Tryz.results121, go_sem]) rfl ?_
  exact ⟨rfl, HE.out _, HM.out _⟩
/-- one event in a new block, and did -/
theorem did29_new (th bg en ck pl : Int) (wt : Bool) (kd a b : Int) (w0 : World) (t : TypeId) :
    Calls Tryz.prog 121 #[.int .i64 th, .int .i64 bg, .int .i64 en, .int .i64 ck, .int .i64 pl, .bool wt, .slice (some ⟨w0.heap.size, 0, none⟩) 1 1] (w0.alloc (.cells #[.int .i64 0, .int .u8 kd, .int .i64 a, .int .i64 b] t (0, 0))) fun e w' =>
    e = .returned (.agg #[.int .i64 th, .int .u8 1, .int .i64 bg, .int .i64 en, .int .i64 ck, .int .i64 pl, .bool wt, .slice (some ⟨w0.heap.size, 0, none⟩) 1 1]) ∧ EvAt w' w0.heap.size 0 ⟨th, kd, a, b⟩ ∧ Below w0.heap.size w0 w' := by
  have hE := evAt_new w0 0 kd a b t
  obtain ⟨h1, h2⟩ := did29_post _ w0.heap.size th kd a b (by simp) hE
  refine (did29_any th bg en ck pl wt w0.heap.size 0 kd a b _ hE.c0 (by simp) h1 h2).mono ?_
  rintro e w' ⟨rfl, hE2, hM⟩
  exact ⟨rfl, hE2, ((Below.refl _ _).alloc (Nat.le_refl _) _).trans (hM.below (by simp))⟩

set_option maxHeartbeats 2000000 in
set_option maxRecDepth 100000 in
theorem lives29_any (w : World) : Calls Tryz.prog 19 #[] w fun e w' => e = .returned (.bool true) ∧ Below w.heap.size w w' := by
  have HC : Hid (Below w.heap.size w w) := Lib.hid (Below.refl _ _)
  go_enter Tryz.func19, Tryz.ntmps19
  go_wp2_with fail
  refine (write_any 1 5 _).mono ?_
  rintro e w1 ⟨rfl, hb1⟩
  have HC1 : Hid (Below w.heap.size w w1) := Lib.hid (HC.out.trans (hb1.mono HC.out.size))
  clear hb1
  go_wp2_with fail
  refine (did29_new 0 0 2 0 1 true 3 1 5 w1 _).mono ?_
  rintro e w2 ⟨rfl, hE2, hb2⟩
  have HC2 : Hid (Below w.heap.size w w2) := Lib.hid (HC1.out.trans (hb2.mono HC1.out.size))
  have HE2 := Lib.hid (evsAt_one hE2)
  clear hb2 hE2
  go_wp2_with fail
  refine (read_any 1 5 _).mono ?_
  rintro e w3 ⟨rfl, hb3⟩
  have HC3 : Hid (Below w.heap.size w w3) := Lib.hid (HC2.out.trans (hb3.mono HC2.out.size))
  have HE3 := Lib.hid (HE2.out.keep hb3 hb3.size)
  clear hb3
  go_wp2_with fail
  refine (did29_new 1 3 5 1 1 false 2 1 5 w3 _).mono ?_
  rintro e w4 ⟨rfl, hE4, hb4⟩
  have HC4 : Hid (Below w.heap.size w w4) := Lib.hid (HC3.out.trans (hb4.mono HC3.out.size))
  have HE4 := Lib.hid (HE3.out.keep hb4 hb4.size)
  have HF4 := Lib.hid (evsAt_one hE4)
  clear hb4 hE4
  go_wp2_with fail
  refine (scheck_is (b := w4.heap.size) (c := 2) [⟨0, 1, 0, 2, 0, 1, true, some ⟨w1.heap.size, 0, none⟩, 1, [⟨0, 3, 1, 5⟩]⟩, ⟨1, 1, 3, 5, 1, 1, false, some ⟨w3.heap.size, 0, none⟩, 1, [⟨1, 2, 1, 5⟩]⟩] 0 0 (by kernel_rfl) (by simp) (by kernel_rfl) (heap_alloc_new w4 _) (mem_two (HE4.out.keep ((Below.refl _ _).alloc (Nat.le_refl _) _) (by simp)) (HF4.out.keep ((Below.refl _ _).alloc (Nat.le_refl _) _) (by simp)))).mono ?_
  rintro e w5 ⟨rfl, hb5⟩
  have HC : Hid (Below w.heap.size w w5) := Lib.hid ((HC4.out.alloc HC4.out.size _).trans (hb5.mono (by have := HC4.out.size; simp; omega)))
  clear hb5 HC1 HC2 HC3 HC4 HE2 HE3 HE4 HF4
  go_wp2_with fail
  refine (write_any 1 5 _).mono ?_
  rintro e w1 ⟨rfl, hb1⟩
  have HC1 : Hid (Below w.heap.size w w1) := Lib.hid (HC.out.trans (hb1.mono HC.out.size))
  clear hb1
  go_wp2_with fail
  refine (did29_new 0 0 2 0 1 true 3 1 5 w1 _).mono ?_
  rintro e w2 ⟨rfl, hE2, hb2⟩
  have HC2 : Hid (Below w.heap.size w w2) := Lib.hid (HC1.out.trans (hb2.mono HC1.out.size))
  have HE2 := Lib.hid (evsAt_one hE2)
  clear hb2 hE2
  go_wp2_with fail
  refine (read_any 1 0 _).mono ?_
  rintro e w3 ⟨rfl, hb3⟩
  have HC3 : Hid (Below w.heap.size w w3) := Lib.hid (HC2.out.trans (hb3.mono HC2.out.size))
  have HE3 := Lib.hid (HE2.out.keep hb3 hb3.size)
  clear hb3
  go_wp2_with fail
  refine (did29_new 1 3 5 1 1 false 2 1 0 w3 _).mono ?_
  rintro e w4 ⟨rfl, hE4, hb4⟩
  have HC4 : Hid (Below w.heap.size w w4) := Lib.hid (HC3.out.trans (hb4.mono HC3.out.size))
  have HE4 := Lib.hid (HE3.out.keep hb4 hb4.size)
  have HF4 := Lib.hid (evsAt_one hE4)
  clear hb4 hE4
  go_wp2_with fail
  refine (scheck_is (b := w4.heap.size) (c := 2) [⟨0, 1, 0, 2, 0, 1, true, some ⟨w1.heap.size, 0, none⟩, 1, [⟨0, 3, 1, 5⟩]⟩, ⟨1, 1, 3, 5, 1, 1, false, some ⟨w3.heap.size, 0, none⟩, 1, [⟨1, 2, 1, 0⟩]⟩] 1 16 (by kernel_rfl) (by simp) (by kernel_rfl) (heap_alloc_new w4 _) (mem_two (HE4.out.keep ((Below.refl _ _).alloc (Nat.le_refl _) _) (by simp)) (HF4.out.keep ((Below.refl _ _).alloc (Nat.le_refl _) _) (by simp)))).mono ?_
  rintro e w6 ⟨rfl, hb5⟩
  have HC : Hid (Below w.heap.size w w6) := Lib.hid ((HC4.out.alloc HC4.out.size _).trans (hb5.mono (by have := HC4.out.size; simp; omega)))
  clear hb5 HC1 HC2 HC3 HC4 HE2 HE3 HE4 HF4
  go_wp2_with fail
  go_ret
  exact ⟨rfl, HC.out⟩

end Go.Proofs.YtjaegddnikkibaaGreatDoor
