/-
  SerialNames walked.
-/
import Derived.Test.YtjaegddnikkibaaSerLives
import Derived.Test.YtjaegddnikkibaaSerSorts
set_option linter.unusedVariables false
set_option linter.unusedSimpArgs false
namespace Go.Proofs.Ytjaegddnikkibaa
open Go.RowKit Go.Sort Go.Maps

theorem scheck_at {c : Nat} (l : List Att) (r1 r2 : Int) (hr : scheckV l = (r1, r2)) (hn : l.length ≤ 1048576) (ho : l.all okAttB = true) {W : World} {A : Option Addr} (ha : AttsAt W W.heap.size A l) :
    Calls Try.prog 12 #[.slice A l.length c] W fun e w' => e = .returned (.tuple #[.int .i64 r1, .int .i64 r2]) ∧ Below W.heap.size W w' :=
  (scheck_any _ c l hn (ok_of ho) W ha).mono fun e w' h => ⟨by rw [h.1, hr], h.2⟩
theorem order_at {c : Nat} (l : List Att) (o : List Int) (hr : checkedV l = 0) (hv : orderV l = o) (hn : l.length ≤ 1048576) (ho : l.all okAttB = true) {W : World} {A : Option Addr} (ha : AttsAt W W.heap.size A l) :
    Calls Try.prog 13 #[.slice A l.length c] W fun e w' => Below W.heap.size W w' ∧ ∃ B cap, e = .returned (.tuple #[.slice B o.length cap, .int .i64 0]) ∧ IntsAt w' B o :=
  (order_any _ c l hn (ok_of ho) W ha).mono fun e w' h => ⟨h.1, by
    rcases h.2 with h2 | h2
    · exact absurd hr h2.1
    · rw [← hv]; exact h2.2⟩
theorem order_bad {c : Nat} (l : List Att) (r : Int) (hr : checkedV l = r) (h0 : r ≠ 0) (hn : l.length ≤ 1048576) (ho : l.all okAttB = true) {W : World} {A : Option Addr} (ha : AttsAt W W.heap.size A l) :
    Calls Try.prog 13 #[.slice A l.length c] W fun e w' => Below W.heap.size W w' ∧ e = .returned (.tuple #[.slice none 0 0, .int .i64 r]) :=
  (order_any _ c l hn (ok_of ho) W ha).mono fun e w' h => ⟨h.1, by
    rcases h.2 with h2 | h2
    · rw [← hr]; exact h2.2
    · exact absurd (hr.symm.trans h2.1) h0⟩
theorem words_at (hs : SortsCells) {c : Nat} (l : List Att) (cs : List (Int × Int)) (hr : checkedV l = 0) (hv : WordsIs cs (allK l (orderV l))) (hn : l.length ≤ 1048576) (ho : l.all okAttB = true) {W : World} {A : Option Addr} (ha : AttsAt W W.heap.size A l) :
    Calls Try.prog 26 #[.slice A l.length c] W fun e w' => Below W.heap.size W w' ∧ ∃ B cap, e = .returned (.tuple #[.slice B cs.length cap, .int .i64 0]) ∧ CellsAt w' B cs :=
  (words_any hs _ c l hn (ok_of ho) W ha).mono fun e w' h => ⟨h.1, by
    rcases h.2 with h2 | ⟨-, B, cap, cs', he, hw, hc, -⟩
    · exact absurd hr h2.1
    · obtain rfl := wordsIs_unique hv hw
      exact ⟨B, cap, he, hc⟩⟩

set_option maxHeartbeats 2000000 in
set_option maxRecDepth 100000 in
theorem sameNumbers_any (A B : Option Addr) (c d : Nat) (o : List Int) (w : World) (hn : o.length ≤ 68157440) (ha : IntsAt w A o) (hb : IntsAt w B o) :
    Calls Try.prog 31 #[.slice A o.length c, .slice B o.length d] w fun e w' => e = .returned (.bool true) ∧ Below w.heap.size w w' := by
  have HA := Lib.hid (fun W (h : Below w.heap.size w W) => ha.keep h)
  have HB := Lib.hid (fun W (h : Below w.heap.size w W) => hb.keep h)
  clear ha hb
  go_enter Try.func31, Try.ntmps31
  go_wp2_with fail
  go_loopw [13] (fun i wr => ∃ k : Nat, i = .int .i64 k ∧ k ≤ o.length ∧ Hid (Below w.heap.size w wr)) (fun i _ => o.length - (intOf i).toNat)
  case atStart => exact ⟨0, rfl, Nat.zero_le _, Lib.hid (Below.refl _ _)⟩
  case round =>
    obtain ⟨k, rfl, hk, hW⟩ := hrel
    by_cases hlt : k < o.length
    · obtain ⟨b, off, rfl, hbl, hc⟩ := HA.out _ hW.out (by rintro rfl; simp at hlt)
      obtain ⟨b2, off2, rfl, hbl2, hc2⟩ := HB.out _ hW.out (by rintro rfl; simp at hlt)
      have e0 := hc k _ (List.getElem?_eq_getElem hlt)
      have f0 := hc2 k _ (List.getElem?_eq_getElem hlt)
      have p1 : (k : Int) < (o.length : Int) := by omega
      have p2 : (0 : Int) ≤ (k : Int) := Int.natCast_nonneg _
      have hE := Lib.hid (fun n => below_drewN hW.out n)
      clear hc hc2 hW
      generalize o[k] = x at *
      go_wp2_with fail
      go_quiet (fail)
      go_wp2_with fail
      go_roundw
      case rel => exact ⟨k + 1, by go_num, by omega, Lib.hid (hE.out _)⟩
      case measure => simp [intOf]; omega
    · clear HA HB
      go_wp2_with fail
      go_ret
      exact ⟨rfl, hW.out⟩

set_option maxHeartbeats 1000000 in
theorem did29_none (th bg en ck pl : Int) (wt : Bool) (w : World) :
    Calls Try.prog 28 #[.int .i64 th, .int .i64 bg, .int .i64 en, .int .i64 ck, .int .i64 pl, .bool wt, .slice none 0 0] w fun e w' =>
    e = .returned (.agg #[.int .i64 th, .int .u8 1, .int .i64 bg, .int .i64 en, .int .i64 ck, .int .i64 pl, .bool wt, .slice none 0 0]) ∧ Below w.heap.size w w' := by
  have hB := Lib.hid (fun o => (Below.refl w.heap.size w).alloc (Nat.le_refl _) o)
  go_enter Try.func28, Try.ntmps28
  go_wp2
  refine wp_loop_rounds 1 ?_
  rw [rounds_succ]
  go_wp2
  refine bodyPost_ret (v := .agg #[.int .i64 th, .int .u8 1, .int .i64 bg, .int .i64 en, .int .i64 ck, .int .i64 pl, .bool wt, .slice none 0 0]) (by simp [results, Try.results28, go_sem]) rfl ?_
  exact ⟨rfl, hB.out _⟩

theorem set_same {W : World} {X k : Nat} {v : Value} (h : W.cell? ⟨X, k, none⟩ = some v) (j : Nat) : (W.setCell ⟨X, k, none⟩ v).cell? ⟨X, j, none⟩ = W.cell? ⟨X, j, none⟩ := by
  by_cases hj : j = k
  · subst hj; rw [World.cell?_setCell_same _ _ _ h, h]
  · exact World.cell?_setCell_other _ _ _ _ (by simp [hj])
theorem set_below {w0 W : World} {X k : Nat} {v : Value} (h : Below X w0 W) : Below X w0 (W.setCell ⟨X, k, none⟩ v) :=
  h.trans ⟨rfl, rfl, rfl, by simp, fun i hi => heap_setCell_other _ _ i _ (by intro e; simp at e; omega)⟩

set_option maxHeartbeats 1000000 in
theorem did29_three (w0 W : World) (X : Nat) (h0 : W.cell? ⟨X, 0, none⟩ = some (.int .i64 0)) (h4 : W.cell? ⟨X, 4, none⟩ = some (.int .i64 0)) (h8 : W.cell? ⟨X, 8, none⟩ = some (.int .i64 0))
    (f0 : W.frozen? ⟨X, 0, none⟩ = false) (f4 : (W.setCell ⟨X, 0, none⟩ (.int .i64 0)).frozen? ⟨X, 4, none⟩ = false) (f8 : ((W.setCell ⟨X, 0, none⟩ (.int .i64 0)).setCell ⟨X, 4, none⟩ (.int .i64 0)).frozen? ⟨X, 8, none⟩ = false)
    (hb : Below X w0 W) (evs : List Ev) (he : EvsAt W W.heap.size (some ⟨X, 0, none⟩) evs) (hX : X < W.heap.size) :
    Calls Try.prog 28 #[.int .i64 0, .int .i64 0, .int .i64 2, .int .i64 0, .int .i64 1, .bool true, .slice (some ⟨X, 0, none⟩) 3 3] W fun e w' =>
    e = .returned (.agg #[.int .i64 0, .int .u8 1, .int .i64 0, .int .i64 2, .int .i64 0, .int .i64 1, .bool true, .slice (some ⟨X, 0, none⟩) 3 3]) ∧ EvsAt w' w'.heap.size (some ⟨X, 0, none⟩) evs ∧ Below X w0 w' := by
  have g4 := (set_same h0 4).trans h4
  have g8 := (set_same g4 8).trans ((set_same h0 8).trans h8)
  have HB : Hid (∀ o, Below X w0 ((((W.setCell ⟨X, 0, none⟩ (.int .i64 0)).setCell ⟨X, 4, none⟩ (.int .i64 0)).setCell ⟨X, 8, none⟩ (.int .i64 0)).alloc o)) := Lib.hid (fun o => (set_below (set_below (set_below hb))).alloc (by simp; omega) o)
  have HE : Hid (∀ o, EvsAt ((((W.setCell ⟨X, 0, none⟩ (.int .i64 0)).setCell ⟨X, 4, none⟩ (.int .i64 0)).setCell ⟨X, 8, none⟩ (.int .i64 0)).alloc o) ((((W.setCell ⟨X, 0, none⟩ (.int .i64 0)).setCell ⟨X, 4, none⟩ (.int .i64 0)).setCell ⟨X, 8, none⟩ (.int .i64 0)).alloc o).heap.size (some ⟨X, 0, none⟩) evs) := Lib.hid (fun o hne => by
    obtain ⟨b, off, e, hlt, hc⟩ := he hne
    injection e with e
    injection e with e1 e2
    subst e1; subst e2
    refine ⟨X, 0, rfl, by simp; omega, fun k x hx => (hc k x hx).keep fun o' => ?_⟩
    rw [((Below.refl _ _).alloc (Nat.le_refl _) o).cell (p := ⟨X, o', none⟩) (by simpa using hX), set_same g8, set_same g4, set_same h0])
  have X1 : ∀ V : World, V.heap.size = W.heap.size → V.heap.size ≠ X := fun V h => by omega
  clear hb he
  go_enter Try.func28, Try.ntmps28
  go_wp2
  refine wp_loop_rounds 4 ?_
  rw [rounds_succ]
  go_wp2
  rw [rounds_succ]
  go_wp2
  rw [rounds_succ]
  go_wp2
  rw [rounds_succ]
  go_wp2
  refine bodyPost_ret (v := .agg #[.int .i64 0, .int .u8 1, .int .i64 0, .int .i64 2, .int .i64 0, .int .i64 1, .bool true, .slice (some ⟨X, 0, none⟩) 3 3]) (by simp [results, Try.results28, go_sem]) rfl ?_
  exact ⟨rfl, HE.out _, HB.out _⟩

abbrev lateV : List Att := [⟨0, 1, 0, 2, 0, 2, true, none, 0, []⟩, ⟨1, 1, 3, 5, 0, 1, true, none, 0, []⟩]
theorem none_evs {W : World} {B : Nat} {A : Option Addr} : EvsAt W B A [] := fun h => absurd rfl h
theorem ints_new (w : World) (t : TypeId) : IntsAt (w.alloc (.cells #[.int .i64 1, .int .i64 0] t (0, 0))) (some ⟨w.heap.size, 0, none⟩) [1, 0] := fun _ =>
  ⟨w.heap.size, 0, rfl, by simp, fun k x hk => by
    match k, hk with
    | 0, hk => simp at hk; subst hk; simp
    | 1, hk => simp at hk; subst hk; simp⟩
theorem cells_new (w : World) (t : TypeId) : CellsAt (w.alloc (.cells #[.int .i64 3, .int .i64 1, .int .i64 7, .int .i64 6] t (0, 0))) (some ⟨w.heap.size, 0, none⟩) [(3, 1), (7, 6)] := fun _ =>
  ⟨w.heap.size, 0, rfl, by simp, fun k x hk => by
    match k, hk with
    | 0, hk => simp at hk; subst hk; exact ⟨by simp, by simp⟩
    | 1, hk => simp at hk; subst hk; exact ⟨by simp, by simp⟩⟩
theorem words_named {B : Option Addr} {n : Nat} : WordsIs [(3, 1), (7, 6)] (allK [⟨0, 1, 0, 2, 0, 1, true, B, n, [⟨0, 3, 7, 5⟩, ⟨0, 3, 3, 1⟩, ⟨0, 3, 7, 6⟩]⟩] (orderV [⟨0, 1, 0, 2, 0, 1, true, B, n, [⟨0, 3, 7, 5⟩, ⟨0, 3, 3, 1⟩, ⟨0, 3, 7, 6⟩]⟩])) := by
  have e : ∀ x, allK [⟨0, 1, 0, 2, 0, 1, true, B, n, [⟨0, 3, 7, 5⟩, ⟨0, 3, 3, 1⟩, ⟨0, 3, 7, 6⟩]⟩] (orderV [⟨0, 1, 0, 2, 0, 1, true, B, n, [⟨0, 3, 7, 5⟩, ⟨0, 3, 3, 1⟩, ⟨0, 3, 7, 6⟩]⟩]) x = if x = 7 then some 6 else if x = 3 then some 1 else if x = 7 then some 5 else none := fun x => rfl
  refine ⟨by simp, fun x v => ?_⟩
  rw [e]
  by_cases h7 : x = 7
  · subst h7; simp; omega
  · rw [if_neg h7]
    by_cases h3 : x = 3
    · subst h3; simp; omega
    · simp [h3, h7]

set_option maxHeartbeats 4000000 in
set_option maxRecDepth 100000 in
theorem serialNames_walk (hs : SortsCells) (w : World) : Calls Try.prog 9 #[] w fun e w' => e = .returned (.bool true) ∧ Below w.heap.size w w' := by
  have HC : Hid (Below w.heap.size w w) := Lib.hid (Below.refl _ _)
  have HS := Lib.hid hs
  clear hs
  go_enter Try.func9, Try.ntmps9
  go_wp2_with fail
  refine (did29_none 0 0 2 0 2 true _).mono ?_
  rintro e w1 ⟨rfl, hb⟩
  have HC : Hid (Below w.heap.size w w1) := Lib.hid (HC.out.trans (hb.mono HC.out.size))
  clear hb
  go_wp2_with fail
  refine (did29_none 1 3 5 0 1 true _).mono ?_
  rintro e w2 ⟨rfl, hb⟩
  have HC : Hid (Below w.heap.size w w2) := Lib.hid (HC.out.trans (hb.mono HC.out.size))
  clear hb
  obtain ⟨X, hX⟩ : ∃ X, w2.heap.size = X := ⟨_, rfl⟩
  obtain ⟨w3, hw3⟩ : ∃ w3, w2.alloc (.cells #[.int .i64 0, .int .u8 1, .int .i64 0, .int .i64 2, .int .i64 0, .int .i64 2, .bool true, .slice none 0 0, .int .i64 1, .int .u8 1, .int .i64 3, .int .i64 5, .int .i64 0, .int .i64 1, .bool true, .slice none 0 0] 35 (0, 0)) = w3 := ⟨_, rfl⟩
  have HL0 : Hid (AttsAt w3 w3.heap.size (some ⟨X, 0, none⟩) lateV) := Lib.hid (by rw [← hw3, ← hX]; exact attsAt_of (heap_alloc_new w2 _) (mem_two none_evs none_evs))
  have HC : Hid (Below w.heap.size w w3) := Lib.hid (by rw [← hw3]; exact HC.out.alloc HC.out.size _)
  go_wp2_with fail
  clear hw3 hX
  refine (order_at lateV [1, 0] (by kernel_rfl) (by kernel_rfl) (by simp) (by kernel_rfl) HL0.out).mono ?_
  rintro e w4 ⟨hb, OA, oc, rfl, hI⟩
  have HI := Lib.hid (fun W (h : Below w4.heap.size w4 W) => hI.keep h)
  have HL1 : Hid (AttsAt w4 w4.heap.size (some ⟨X, 0, none⟩) lateV) := Lib.hid (HL0.out.keep hb hb.size)
  have HC : Hid (Below w.heap.size w w4) := Lib.hid (HC.out.trans (hb.mono HC.out.size))
  have HJ : Hid (Below w4.heap.size w4 w4) := Lib.hid (Below.refl _ _)
  clear hb hI HL0
  go_wp2_with fail
  refine (scheck_at lateV 1 16 (by kernel_rfl) (by simp) (by kernel_rfl) HL1.out).mono ?_
  rintro e w5 ⟨rfl, hb⟩
  have HC : Hid (Below w.heap.size w w5) := Lib.hid (HC.out.trans (hb.mono HC.out.size))
  have HJ : Hid (Below w4.heap.size w4 w5) := Lib.hid (HJ.out.trans (hb.mono HJ.out.size))
  clear hb
  go_wp2_with fail
  refine (did29_none 0 0 2 5 4 true _).mono ?_
  rintro e w6 ⟨rfl, hb⟩
  have HC : Hid (Below w.heap.size w w6) := Lib.hid (HC.out.trans (hb.mono HC.out.size))
  have HJ : Hid (Below w4.heap.size w4 w6) := Lib.hid (HJ.out.trans (hb.mono HJ.out.size))
  clear hb
  go_wp2_with fail
  refine (scheck_at [⟨0, 1, 0, 2, 5, 4, true, none, 0, []⟩] 0 16 (by kernel_rfl) (by simp) (by kernel_rfl) (attsAt_of (heap_alloc_new w6 _) (mem_one none_evs))).mono ?_
  rintro e w7 ⟨rfl, hb⟩
  have HJ : Hid (Below w4.heap.size w4 w7) := Lib.hid ((HJ.out.alloc HJ.out.size _).trans (hb.mono (by have := HJ.out.size; simp; omega)))
  have HC : Hid (Below w.heap.size w w7) := Lib.hid ((HC.out.alloc HC.out.size _).trans (hb.mono (by have := HC.out.size; simp; omega)))
  clear hb
  go_wp2_with fail
  refine (did29_none 0 0 0 0 0 false _).mono ?_
  rintro e w8 ⟨rfl, hb⟩
  have HC : Hid (Below w.heap.size w w8) := Lib.hid (HC.out.trans (hb.mono HC.out.size))
  have HJ : Hid (Below w4.heap.size w4 w8) := Lib.hid (HJ.out.trans (hb.mono HJ.out.size))
  clear hb
  go_wp2_with fail
  refine (scheck_at [⟨0, 1, 0, 0, 0, 0, false, none, 0, []⟩] 0 15 (by kernel_rfl) (by simp) (by kernel_rfl) (attsAt_of (heap_alloc_new w8 _) (mem_one none_evs))).mono ?_
  rintro e w9 ⟨rfl, hb⟩
  have HJ : Hid (Below w4.heap.size w4 w9) := Lib.hid ((HJ.out.alloc HJ.out.size _).trans (hb.mono (by have := HJ.out.size; simp; omega)))
  have HC : Hid (Below w.heap.size w w9) := Lib.hid ((HC.out.alloc HC.out.size _).trans (hb.mono (by have := HC.out.size; simp; omega)))
  clear hb
  go_wp2_with fail
  refine (did29_new 0 0 1 0 0 false 9 0 0 w9 _).mono ?_
  rintro e w10 ⟨rfl, hE, hb⟩
  have HC : Hid (Below w.heap.size w w10) := Lib.hid (HC.out.trans (hb.mono HC.out.size))
  have HJ : Hid (Below w4.heap.size w4 w10) := Lib.hid (HJ.out.trans (hb.mono HJ.out.size))
  have HE := Lib.hid (evsAt_one hE)
  clear hb hE
  go_wp2_with fail
  refine (order_bad [⟨0, 1, 0, 1, 0, 0, false, some ⟨w9.heap.size, 0, none⟩, 1, [⟨0, 9, 0, 0⟩]⟩] 15 (by kernel_rfl) (by decide) (by simp) (by kernel_rfl) (attsAt_of (heap_alloc_new w10 _) (mem_one (HE.out.keep ((Below.refl _ _).alloc (Nat.le_refl _) _) (by simp))))).mono ?_
  rintro e w11 ⟨hb, rfl⟩
  have HJ : Hid (Below w4.heap.size w4 w11) := Lib.hid ((HJ.out.alloc HJ.out.size _).trans (hb.mono (by have := HJ.out.size; simp; omega)))
  have HC : Hid (Below w.heap.size w w11) := Lib.hid ((HC.out.alloc HC.out.size _).trans (hb.mono (by have := HC.out.size; simp; omega)))
  clear hb HE
  go_wp2_with fail
  refine (read_any 1 9 _).mono ?_
  rintro e w12 ⟨rfl, hb⟩
  have HC : Hid (Below w.heap.size w w12) := Lib.hid (HC.out.trans (hb.mono HC.out.size))
  have HJ : Hid (Below w4.heap.size w4 w12) := Lib.hid (HJ.out.trans (hb.mono HJ.out.size))
  clear hb
  obtain ⟨w13, hw13⟩ : ∃ w13, w12.alloc (.cells #[.int .i64 0, .int .u8 2, .int .i64 1, .int .i64 9] 38 (0, 0)) = w13 := ⟨_, rfl⟩
  obtain ⟨Y, hY⟩ : ∃ Y, w12.heap.size = Y := ⟨_, rfl⟩
  obtain ⟨Z, hZ⟩ : ∃ Z, w13.heap.size = Z := ⟨_, rfl⟩
  have HEV : Hid (EvsAt w13 w13.heap.size (some ⟨Y, 0, none⟩) [⟨0, 2, 1, 9⟩]) := Lib.hid (by rw [← hw13, ← hY]; exact evsAt_one (evAt_new w12 0 2 1 9 _))
  have HC : Hid (Below w.heap.size w w13) := Lib.hid (by rw [← hw13]; exact HC.out.alloc HC.out.size _)
  have HJ : Hid (Below w4.heap.size w4 w13) := Lib.hid (by rw [← hw13]; exact HJ.out.alloc HJ.out.size _)
  obtain ⟨w14, hw14⟩ : ∃ w14, w13.alloc (.cells #[.int .i64 0, .int .u8 2, .int .i64 0, .int .i64 1, .int .i64 0, .int .i64 0, .bool false, .slice (some ⟨Y, 0, none⟩) 1 1] 35 (0, 0)) = w14 := ⟨_, rfl⟩
  have HG : Hid (AttsAt w14 w14.heap.size (some ⟨Z, 0, none⟩) [⟨0, 2, 0, 1, 0, 0, false, some ⟨Y, 0, none⟩, 1, [⟨0, 2, 1, 9⟩]⟩]) := Lib.hid (by rw [← hw14, ← hZ]; exact attsAt_of (heap_alloc_new w13 _) (mem_one (HEV.out.keep ((Below.refl _ _).alloc (Nat.le_refl _) _) (by simp))))
  have HC : Hid (Below w.heap.size w w14) := Lib.hid (by rw [← hw14]; exact HC.out.alloc HC.out.size _)
  have HJ : Hid (Below w4.heap.size w4 w14) := Lib.hid (by rw [← hw14]; exact HJ.out.alloc HJ.out.size _)
  go_wp2_with fail
  clear hw13 hw14 hY hZ HEV
  refine (order_at [⟨0, 2, 0, 1, 0, 0, false, some ⟨Y, 0, none⟩, 1, [⟨0, 2, 1, 9⟩]⟩] [] (by kernel_rfl) (by kernel_rfl) (by simp) (by kernel_rfl) HG.out).mono ?_
  rintro e w15 ⟨hb, NA, nc, rfl, -⟩
  have HG : Hid (AttsAt w15 w15.heap.size (some ⟨Z, 0, none⟩) [⟨0, 2, 0, 1, 0, 0, false, some ⟨Y, 0, none⟩, 1, [⟨0, 2, 1, 9⟩]⟩]) := Lib.hid (HG.out.keep hb hb.size)
  have HJ : Hid (Below w4.heap.size w4 w15) := Lib.hid (HJ.out.trans (hb.mono HJ.out.size))
  have HC : Hid (Below w.heap.size w w15) := Lib.hid (HC.out.trans (hb.mono HC.out.size))
  clear hb
  go_wp2_with fail
  refine (scheck_at [⟨0, 2, 0, 1, 0, 0, false, some ⟨Y, 0, none⟩, 1, [⟨0, 2, 1, 9⟩]⟩] 0 0 (by kernel_rfl) (by simp) (by kernel_rfl) HG.out).mono ?_
  rintro e w16 ⟨rfl, hb⟩
  have HC : Hid (Below w.heap.size w w16) := Lib.hid (HC.out.trans (hb.mono HC.out.size))
  have HJ : Hid (Below w4.heap.size w4 w16) := Lib.hid (HJ.out.trans (hb.mono HJ.out.size))
  clear hb
  clear HG
  go_wp2_with fail
  refine (write_any 7 5 _).mono ?_
  rintro e w17 ⟨rfl, hb⟩
  have HC : Hid (Below w.heap.size w w17) := Lib.hid (HC.out.trans (hb.mono HC.out.size))
  have HJ : Hid (Below w4.heap.size w4 w17) := Lib.hid (HJ.out.trans (hb.mono HJ.out.size))
  clear hb
  go_wp2_with fail
  refine (write_any 3 1 _).mono ?_
  rintro e w18 ⟨rfl, hb⟩
  have HC : Hid (Below w.heap.size w w18) := Lib.hid (HC.out.trans (hb.mono HC.out.size))
  have HJ : Hid (Below w4.heap.size w4 w18) := Lib.hid (HJ.out.trans (hb.mono HJ.out.size))
  clear hb
  go_wp2_with fail
  refine (write_any 7 6 _).mono ?_
  rintro e w19 ⟨rfl, hb⟩
  have HC : Hid (Below w.heap.size w w19) := Lib.hid (HC.out.trans (hb.mono HC.out.size))
  have HJ : Hid (Below w4.heap.size w4 w19) := Lib.hid (HJ.out.trans (hb.mono HJ.out.size))
  clear hb
  have HW0 : Hid (∀ W, w19.alloc (.cells #[.int .i64 0, .int .u8 3, .int .i64 7, .int .i64 5, .int .i64 0, .int .u8 3, .int .i64 3, .int .i64 1, .int .i64 0, .int .u8 3, .int .i64 7, .int .i64 6] 38 (0, 0)) = W →
      Calls Try.prog 28 #[.int .i64 0, .int .i64 0, .int .i64 2, .int .i64 0, .int .i64 1, .bool true, .slice (some ⟨w19.heap.size, 0, none⟩) 3 3] W fun e w' =>
        e = .returned (.agg #[.int .i64 0, .int .u8 1, .int .i64 0, .int .i64 2, .int .i64 0, .int .i64 1, .bool true, .slice (some ⟨w19.heap.size, 0, none⟩) 3 3]) ∧ EvsAt w' w'.heap.size (some ⟨w19.heap.size, 0, none⟩) [⟨0, 3, 7, 5⟩, ⟨0, 3, 3, 1⟩, ⟨0, 3, 7, 6⟩] ∧ Below w19.heap.size w19 w') := Lib.hid (fun W h => by
    subst h
    exact did29_three w19 _ w19.heap.size (by simp) (by simp) (by simp) (by simp) (by simp) (by simp) ((Below.refl _ _).alloc (Nat.le_refl _) _) [⟨0, 3, 7, 5⟩, ⟨0, 3, 3, 1⟩, ⟨0, 3, 7, 6⟩] (evsAt_of (l := [⟨0, 3, 7, 5⟩, ⟨0, 3, 3, 1⟩, ⟨0, 3, 7, 6⟩]) (heap_alloc_new w19 _)) (by simp))
  go_wp2_with fail
  refine (HW0.out _ rfl).mono ?_
  rintro e w20 ⟨rfl, hE, hb⟩
  have HC : Hid (Below w.heap.size w w20) := Lib.hid (HC.out.trans (hb.mono HC.out.size))
  have HJ : Hid (Below w4.heap.size w4 w20) := Lib.hid (HJ.out.trans (hb.mono HJ.out.size))
  have HE := Lib.hid hE
  clear hb hE HW0
  go_wp2_with fail
  refine (words_at HS.out [⟨0, 1, 0, 2, 0, 1, true, some ⟨w19.heap.size, 0, none⟩, 3, [⟨0, 3, 7, 5⟩, ⟨0, 3, 3, 1⟩, ⟨0, 3, 7, 6⟩]⟩] [(3, 1), (7, 6)] (by kernel_rfl) words_named (by simp) (by kernel_rfl) (attsAt_of (heap_alloc_new w20 _) (mem_one (HE.out.keep ((Below.refl _ _).alloc (Nat.le_refl _) _) (by simp))))).mono ?_
  rintro e w21 ⟨hb, CB, cc, rfl, hCA⟩
  have HJ : Hid (Below w4.heap.size w4 w21) := Lib.hid ((HJ.out.alloc HJ.out.size _).trans (hb.mono (by have := HJ.out.size; simp; omega)))
  have HC : Hid (Below w.heap.size w w21) := Lib.hid ((HC.out.alloc HC.out.size _).trans (hb.mono (by have := HC.out.size; simp; omega)))
  have HCA := Lib.hid (fun W (h : Below w21.heap.size w21 W) => hCA.keep h)
  clear hb HE hCA
  go_wp2_with fail
  refine (sameNumbers_any OA (some ⟨w21.heap.size, 0, none⟩) oc 2 [1, 0] _ (by simp) (HI.out _ (HJ.out.alloc HJ.out.size _)) (ints_new w21 _)).mono ?_
  rintro e w22 ⟨rfl, hb⟩
  have HQ : Hid (Below w21.heap.size w21 w22) := Lib.hid (((Below.refl _ _).alloc (Nat.le_refl _) _).trans (hb.mono (by simp)))
  have HC : Hid (Below w.heap.size w w22) := Lib.hid (HC.out.trans (HQ.out.mono HC.out.size))
  clear hb HI HJ
  go_wp2_with fail
  refine (lives29_any _).mono ?_
  rintro e w23 ⟨rfl, hb⟩
  have HQ : Hid (Below w21.heap.size w21 w23) := Lib.hid (HQ.out.trans (hb.mono HQ.out.size))
  have HC : Hid (Below w.heap.size w w23) := Lib.hid (HC.out.trans (hb.mono HC.out.size))
  clear hb
  go_wp2_with fail
  refine (sameCells_any CB (some ⟨w23.heap.size, 0, none⟩) cc 2 [(3, 1), (7, 6)] _ (by simp) (HCA.out _ (HQ.out.alloc HQ.out.size _)) (cells_new w23 _)).mono ?_
  rintro e w24 ⟨rfl, hb⟩
  have HC : Hid (Below w.heap.size w w24) := Lib.hid ((HC.out.alloc HC.out.size _).trans (hb.mono (by have := HC.out.size; simp; omega)))
  clear hb
  go_wp2_with fail
  go_ret
  exact ⟨rfl, HC.out⟩
end Go.Proofs.Ytjaegddnikkibaa
