/-
  Law 29's lives: closed attempts, their check; changes; last.
-/
import Derived.Test.YtjaegddnikkibaaSerChk2
import Derived.Test.YtjaegddnikkibaaOpLives
set_option linter.unusedVariables false
set_option linter.unusedSimpArgs false
namespace Go.Proofs.Ytjaegddnikkibaa
open Go.RowKit Go.Sort Go.Maps

theorem scheck_is {b c : Nat} (l : List Att) (r1 r2 : Int) (hr : scheckV l = (r1, r2)) (hn : l.length ≤ 1048576) (ho : l.all okAttB = true) {W : World} {t : TypeId} {fr : Nat × Nat} (hb : W.heap[b]? = some (.cells (l.flatMap Att.cells).toArray t fr)) (he : ∀ x ∈ l, EvsAt W W.heap.size x.dA x.evs) :
    Calls Try.prog 12 #[.slice (some ⟨b, 0, none⟩) l.length c] W fun e w' => e = .returned (.tuple #[.int .i64 r1, .int .i64 r2]) ∧ Below W.heap.size W w' :=
  (scheck_any _ c l hn (ok_of ho) W (attsAt_of hb he)).mono fun e w' h => ⟨by rw [h.1, hr], h.2⟩

set_option maxHeartbeats 400000 in
theorem read_any (a b : Int) (w : World) : Calls Try.prog 29 #[.int .i64 a, .int .i64 b] w fun e w' => e = .returned (.agg #[.int .i64 0, .int .u8 2, .int .i64 a, .int .i64 b]) ∧ Below w.heap.size w w' := by
  have hB := Lib.hid (fun o => (Below.refl w.heap.size w).alloc (Nat.le_refl _) o)
  go_enter Try.func29, Try.ntmps29
  go_wp2_with fail
  refine bodyPost_ret (v := .agg #[.int .i64 0, .int .u8 2, .int .i64 a, .int .i64 b]) (by simp [results, Try.results29, go_sem]) rfl ?_
  exact ⟨rfl, hB.out _⟩
set_option maxHeartbeats 400000 in
theorem write_any (a b : Int) (w : World) : Calls Try.prog 30 #[.int .i64 a, .int .i64 b] w fun e w' => e = .returned (.agg #[.int .i64 0, .int .u8 3, .int .i64 a, .int .i64 b]) ∧ Below w.heap.size w w' := by
  have hB := Lib.hid (fun o => (Below.refl w.heap.size w).alloc (Nat.le_refl _) o)
  go_enter Try.func30, Try.ntmps30
  go_wp2_with fail
  refine bodyPost_ret (v := .agg #[.int .i64 0, .int .u8 3, .int .i64 a, .int .i64 b]) (by simp [results, Try.results30, go_sem]) rfl ?_
  exact ⟨rfl, hB.out _⟩

/-- did, of one event -/
theorem did29_post (w : World) (B : Nat) (th kd a b : Int) (hlt : B < w.heap.size) (h : EvAt w B 0 ⟨0, kd, a, b⟩) : Hid (∀ o, EvAt ((w.setCell ⟨B, 0, none⟩ (.int .i64 th)).alloc o) B 0 ⟨th, kd, a, b⟩) ∧ Hid (∀ o, MapF B w ((w.setCell ⟨B, 0, none⟩ (.int .i64 th)).alloc o)) := by
  obtain ⟨c0, c1, c2, c3⟩ := h
  have hE1 : EvAt (w.setCell ⟨B, 0, none⟩ (.int .i64 th)) B 0 ⟨th, kd, a, b⟩ := ⟨World.cell?_setCell_same _ _ _ c0, (World.cell?_setCell_other _ _ _ _ (by simp)).trans c1, (World.cell?_setCell_other _ _ _ _ (by simp)).trans c2, (World.cell?_setCell_other _ _ _ _ (by simp)).trans c3⟩
  exact ⟨Lib.hid (fun o => hE1.keep fun o' => ((Below.refl (w.setCell ⟨B, 0, none⟩ (.int .i64 th)).heap.size _).alloc (Nat.le_refl _) o).cell (p := ⟨B, o', none⟩) (by simpa using hlt)),
    Lib.hid (fun o => MapF.alloc (w := w.setCell ⟨B, 0, none⟩ (.int .i64 th)) (⟨rfl, rfl, rfl, by simp, fun k hk hm => heap_setCell_other _ _ k _ (fun e => hm (by simpa using e))⟩ : MapF B w (w.setCell ⟨B, 0, none⟩ (.int .i64 th))) o)⟩
set_option maxHeartbeats 1000000 in
theorem did29_any (th bg en ck pl : Int) (wt : Bool) (B : Nat) (eth kd a b : Int) (w : World) (c0 : w.cell? ⟨B, 0, none⟩ = some (.int .i64 eth)) (hf : w.frozen? ⟨B, 0, none⟩ = false)
    (HE : Hid (∀ o, EvAt ((w.setCell ⟨B, 0, none⟩ (.int .i64 th)).alloc o) B 0 ⟨th, kd, a, b⟩)) (HM : Hid (∀ o, MapF B w ((w.setCell ⟨B, 0, none⟩ (.int .i64 th)).alloc o))) :
    Calls Try.prog 28 #[.int .i64 th, .int .i64 bg, .int .i64 en, .int .i64 ck, .int .i64 pl, .bool wt, .slice (some ⟨B, 0, none⟩) 1 1] w fun e w' =>
    e = .returned (.agg #[.int .i64 th, .int .u8 1, .int .i64 bg, .int .i64 en, .int .i64 ck, .int .i64 pl, .bool wt, .slice (some ⟨B, 0, none⟩) 1 1]) ∧ EvAt w' B 0 ⟨th, kd, a, b⟩ ∧ MapF B w w' := by
  have hlt := World.block_lt_of_cell? _ _ c0
  have X1 : w.heap.size ≠ B := fun e => by rw [e] at hlt; exact Nat.lt_irrefl _ hlt
  go_enter Try.func28, Try.ntmps28
  go_wp2
  refine wp_loop_rounds 2 ?_
  rw [rounds_succ]
  go_wp2
  rw [rounds_succ]
  go_wp2
  refine bodyPost_ret (v := .agg #[.int .i64 th, .int .u8 1, .int .i64 bg, .int .i64 en, .int .i64 ck, .int .i64 pl, .bool wt, .slice (some ⟨B, 0, none⟩) 1 1]) (by simp [results, Try.results28, go_sem]) rfl ?_
  exact ⟨rfl, HE.out _, HM.out _⟩
/-- one event in a new block, and did -/
theorem did29_new (th bg en ck pl : Int) (wt : Bool) (kd a b : Int) (w0 : World) (t : TypeId) :
    Calls Try.prog 28 #[.int .i64 th, .int .i64 bg, .int .i64 en, .int .i64 ck, .int .i64 pl, .bool wt, .slice (some ⟨w0.heap.size, 0, none⟩) 1 1] (w0.alloc (.cells #[.int .i64 0, .int .u8 kd, .int .i64 a, .int .i64 b] t (0, 0))) fun e w' =>
    e = .returned (.agg #[.int .i64 th, .int .u8 1, .int .i64 bg, .int .i64 en, .int .i64 ck, .int .i64 pl, .bool wt, .slice (some ⟨w0.heap.size, 0, none⟩) 1 1]) ∧ EvAt w' w0.heap.size 0 ⟨th, kd, a, b⟩ ∧ Below w0.heap.size w0 w' := by
  have hE := evAt_new w0 0 kd a b t
  obtain ⟨h1, h2⟩ := did29_post _ w0.heap.size th kd a b (by simp) hE
  refine (did29_any th bg en ck pl wt w0.heap.size 0 kd a b _ hE.c0 (by simp) h1 h2).mono ?_
  rintro e w' ⟨rfl, hE2, hM⟩
  exact ⟨rfl, hE2, ((Below.refl _ _).alloc (Nat.le_refl _) _).trans (hM.below (by simp))⟩

set_option maxHeartbeats 2000000 in
set_option maxRecDepth 100000 in
theorem lives29_any (w : World) : Calls Try.prog 14 #[] w fun e w' => e = .returned (.bool true) ∧ Below w.heap.size w w' := by
  have HC : Hid (Below w.heap.size w w) := Lib.hid (Below.refl _ _)
  go_enter Try.func14, Try.ntmps14
  go_wp2_with fail
  refine (write_any 1 5 _).mono ?_
  rintro e w1 ⟨rfl, hb1⟩
  have HC1 : Hid (Below w.heap.size w w1) := Lib.hid (HC.out.trans (hb1.mono HC.out.size))
  clear hb1
  go_wp2_with fail
  refine (did29_new 0 0 2 0 1 true 3 1 5 w1 _).mono ?_
  rintro e w2 ⟨rfl, hE2, hb2⟩
  have HC2 : Hid (Below w.heap.size w w2) := Lib.hid (HC1.out.trans (hb2.mono HC1.out.size))
  have HE2 := Lib.hid (evsAt_one hE2)
  clear hb2 hE2
  go_wp2_with fail
  refine (read_any 1 5 _).mono ?_
  rintro e w3 ⟨rfl, hb3⟩
  have HC3 : Hid (Below w.heap.size w w3) := Lib.hid (HC2.out.trans (hb3.mono HC2.out.size))
  have HE3 := Lib.hid (HE2.out.keep hb3 hb3.size)
  clear hb3
  go_wp2_with fail
  refine (did29_new 1 3 5 1 1 false 2 1 5 w3 _).mono ?_
  rintro e w4 ⟨rfl, hE4, hb4⟩
  have HC4 : Hid (Below w.heap.size w w4) := Lib.hid (HC3.out.trans (hb4.mono HC3.out.size))
  have HE4 := Lib.hid (HE3.out.keep hb4 hb4.size)
  have HF4 := Lib.hid (evsAt_one hE4)
  clear hb4 hE4
  go_wp2_with fail
  refine (scheck_is (b := w4.heap.size) (c := 2) [⟨0, 1, 0, 2, 0, 1, true, some ⟨w1.heap.size, 0, none⟩, 1, [⟨0, 3, 1, 5⟩]⟩, ⟨1, 1, 3, 5, 1, 1, false, some ⟨w3.heap.size, 0, none⟩, 1, [⟨1, 2, 1, 5⟩]⟩] 0 0 (by kernel_rfl) (by simp) (by kernel_rfl) (heap_alloc_new w4 _) (mem_two (HE4.out.keep ((Below.refl _ _).alloc (Nat.le_refl _) _) (by simp)) (HF4.out.keep ((Below.refl _ _).alloc (Nat.le_refl _) _) (by simp)))).mono ?_
  rintro e w5 ⟨rfl, hb5⟩
  have HC : Hid (Below w.heap.size w w5) := Lib.hid ((HC4.out.alloc HC4.out.size _).trans (hb5.mono (by have := HC4.out.size; simp; omega)))
  clear hb5 HC1 HC2 HC3 HC4 HE2 HE3 HE4 HF4
  go_wp2_with fail
  refine (write_any 1 5 _).mono ?_
  rintro e w1 ⟨rfl, hb1⟩
  have HC1 : Hid (Below w.heap.size w w1) := Lib.hid (HC.out.trans (hb1.mono HC.out.size))
  clear hb1
  go_wp2_with fail
  refine (did29_new 0 0 2 0 1 true 3 1 5 w1 _).mono ?_
  rintro e w2 ⟨rfl, hE2, hb2⟩
  have HC2 : Hid (Below w.heap.size w w2) := Lib.hid (HC1.out.trans (hb2.mono HC1.out.size))
  have HE2 := Lib.hid (evsAt_one hE2)
  clear hb2 hE2
  go_wp2_with fail
  refine (read_any 1 0 _).mono ?_
  rintro e w3 ⟨rfl, hb3⟩
  have HC3 : Hid (Below w.heap.size w w3) := Lib.hid (HC2.out.trans (hb3.mono HC2.out.size))
  have HE3 := Lib.hid (HE2.out.keep hb3 hb3.size)
  clear hb3
  go_wp2_with fail
  refine (did29_new 1 3 5 1 1 false 2 1 0 w3 _).mono ?_
  rintro e w4 ⟨rfl, hE4, hb4⟩
  have HC4 : Hid (Below w.heap.size w w4) := Lib.hid (HC3.out.trans (hb4.mono HC3.out.size))
  have HE4 := Lib.hid (HE3.out.keep hb4 hb4.size)
  have HF4 := Lib.hid (evsAt_one hE4)
  clear hb4 hE4
  go_wp2_with fail
  refine (scheck_is (b := w4.heap.size) (c := 2) [⟨0, 1, 0, 2, 0, 1, true, some ⟨w1.heap.size, 0, none⟩, 1, [⟨0, 3, 1, 5⟩]⟩, ⟨1, 1, 3, 5, 1, 1, false, some ⟨w3.heap.size, 0, none⟩, 1, [⟨1, 2, 1, 0⟩]⟩] 1 16 (by kernel_rfl) (by simp) (by kernel_rfl) (heap_alloc_new w4 _) (mem_two (HE4.out.keep ((Below.refl _ _).alloc (Nat.le_refl _) _) (by simp)) (HF4.out.keep ((Below.refl _ _).alloc (Nat.le_refl _) _) (by simp)))).mono ?_
  rintro e w6 ⟨rfl, hb5⟩
  have HC : Hid (Below w.heap.size w w6) := Lib.hid ((HC4.out.alloc HC4.out.size _).trans (hb5.mono (by have := HC4.out.size; simp; omega)))
  clear hb5 HC1 HC2 HC3 HC4 HE2 HE3 HE4 HF4
  go_wp2_with fail
  go_ret
  exact ⟨rfl, HC.out⟩

set_option maxHeartbeats 1000000 in
set_option maxRecDepth 100000 in
theorem changes_any (th kd a b at_ : Int) (ha : 0 ≤ a ∧ a ≤ 262144) (hat : 0 ≤ at_ ∧ at_ ≤ 262144) (w : World) :
    Calls Try.prog 42 #[.agg #[.int .i64 th, .int .u8 kd, .int .i64 a, .int .i64 b], .int .i64 at_] w fun e w' => e = .returned (.tuple #[.int .i64 (chV ⟨th, kd, a, b⟩ at_).1, .bool (chV ⟨th, kd, a, b⟩ at_).2]) ∧ Below w.heap.size w w' := by
  have hB := Lib.hid (fun o => (Below.refl w.heap.size w).alloc (Nat.le_refl _) o)
  obtain ⟨w0, hw0⟩ : ∃ w0, w.alloc (.cells #[.int .i64 th, .int .u8 kd, .int .i64 a, .int .i64 b] 38 (0, 0)) = w0 := ⟨_, rfl⟩
  have d1 : w0.cell? ⟨w.heap.size, 1, none⟩ = some (.int .u8 kd) := by rw [← hw0]; simp
  have d2 : w0.cell? ⟨w.heap.size, 2, none⟩ = some (.int .i64 a) := by rw [← hw0]; simp
  have d3 : w0.cell? ⟨w.heap.size, 3, none⟩ = some (.int .i64 b) := by rw [← hw0]; simp
  have HB : Hid (Below w.heap.size w w0) := Lib.hid (by rw [← hw0]; exact hB.out _)
  clear hB
  have hwr : IntKind.i64.wrap (at_ - a) = at_ - a := by rw [IntKind.wrap_i64]; omega
  obtain ⟨r, hr⟩ : ∃ r, chV ⟨th, kd, a, b⟩ at_ = r := ⟨_, rfl⟩
  rw [hr]
  by_cases h35 : kd = 3 ∨ kd = 5
  · by_cases hA : a = at_
    · subst hA
      have hr2 : Hid (r = (b, true)) := Lib.hid (by rw [← hr]; unfold chV; rw [if_pos ⟨h35, rfl⟩])
      clear hr ha hat hwr
      rcases h35 with rfl | rfl
      all_goals
        go_enter Try.func42, Try.ntmps42
        go_wp2_with fail
        refine bodyPost_ret (v := .tuple #[.int .i64 b, .bool true]) (by simp [results, Try.results42, go_sem]) rfl ?_
        exact ⟨by rw [hr2.out], HB.out⟩
    · have t1 : (a == at_) = false := by simpa using hA
      have t2 : decide (a = at_) = false := by simpa using hA
      have hr2 : Hid (r = (0, false)) := Lib.hid (by
        rw [← hr]; unfold chV
        rw [if_neg (fun h => hA h.2), show decide (kd = 6) = false by simp; omega]; rfl)
      clear hr ha hat hwr hA
      rcases h35 with rfl | rfl
      all_goals
        go_enter Try.func42, Try.ntmps42
        go_wp2_with fail
        go_quiet (fail)
        go_wp2_with fail
        refine bodyPost_ret (v := .tuple #[.int .i64 0, .bool false]) (by simp [results, Try.results42, go_sem]) rfl ?_
        exact ⟨by rw [hr2.out], below_drewN HB.out _⟩
  · have t3 : (kd == 3) = false := by simp; omega
    have t4 : (kd == 5) = false := by simp; omega
    have t3d : decide (kd = 3) = false := by simp; omega
    have t4d : decide (kd = 5) = false := by simp; omega
    have hr0 : Hid (r = (0, decide (kd = 6) && decide (a ≤ at_) && decide (at_ - a < b))) := Lib.hid (by rw [← hr]; unfold chV; rw [if_neg (fun h => h35 h.1)])
    clear hr ha hat h35
    by_cases h6 : kd = 6
    · subst h6
      by_cases h7 : a ≤ at_
      · have t5 : decide (a ≤ at_) = true := by simpa using h7
        cases h8 : decide (at_ - a < b)
        · have hr2 : Hid (r = (0, false)) := Lib.hid (by rw [hr0.out, t5, h8]; rfl)
          clear hr0 h7
          go_enter Try.func42, Try.ntmps42
          go_wp2_with fail
          go_quiet (fail)
          go_wp2_with fail
          refine bodyPost_ret (v := .tuple #[.int .i64 0, .bool false]) (by simp [results, Try.results42, go_sem]) rfl ?_
          exact ⟨by rw [hr2.out], below_drewN HB.out _⟩
        · have hr2 : Hid (r = (0, true)) := Lib.hid (by rw [hr0.out, t5, h8]; rfl)
          clear hr0 h7
          go_enter Try.func42, Try.ntmps42
          go_wp2_with fail
          go_quiet (fail)
          go_wp2_with fail
          refine bodyPost_ret (v := .tuple #[.int .i64 0, .bool true]) (by simp [results, Try.results42, go_sem]) rfl ?_
          exact ⟨by rw [hr2.out], below_drewN HB.out _⟩
      · have t5 : decide (a ≤ at_) = false := by simpa using h7
        have hr2 : Hid (r = (0, false)) := Lib.hid (by rw [hr0.out, t5]; rfl)
        clear hr0 h7
        go_enter Try.func42, Try.ntmps42
        go_wp2_with fail
        go_quiet (fail)
        go_wp2_with fail
        refine bodyPost_ret (v := .tuple #[.int .i64 0, .bool false]) (by simp [results, Try.results42, go_sem]) rfl ?_
        exact ⟨by rw [hr2.out], below_drewN HB.out _⟩
    · have t6 : (kd == 6) = false := by simpa using h6
      have t6d : decide (kd = 6) = false := by simpa using h6
      have hr2 : Hid (r = (0, false)) := Lib.hid (by rw [hr0.out, t6d]; rfl)
      clear hr0 h6
      go_enter Try.func42, Try.ntmps42
      go_wp2_with fail
      go_quiet (fail)
      go_wp2_with fail
      refine bodyPost_ret (v := .tuple #[.int .i64 0, .bool false]) (by simp [results, Try.results42, go_sem]) rfl ?_
      exact ⟨by rw [hr2.out], below_drewN HB.out _⟩

/-! ### last -/
def lastV (l : List Att) (o : List Int) (n first : Nat) (at_ : Int) : Int := doV (heapAll l (o.take n)) ((attN l (o.getD n 0)).evs.take first) at_
theorem doV_snoc (h : Int → Int) {es : List Ev} {k : Nat} (hk : k < es.length) (at_ : Int) : doV h (es.take (k + 1)) at_ = if (chV es[k] at_).2 then (chV es[k] at_).1 else doV h (es.take k) at_ := by
  rw [← chV_doEv, List.take_succ_eq_append_getElem hk]
  unfold doV
  rw [List.foldl_append]; rfl
theorem heapAll_snoc (l : List Att) {o : List Int} {k : Nat} (hk : k < o.length) : heapAll l (o.take (k + 1)) = doV (heapAll l (o.take k)) (attN l o[k]).evs := by
  unfold heapAll
  rw [List.take_succ_eq_append_getElem hk, List.foldl_append]; rfl

set_option maxHeartbeats 2000000 in
set_option maxRecDepth 100000 in
theorem last_any (A O : Option Addr) (c oc n first : Nat) (at_ : Int) (hat : 0 ≤ at_ ∧ at_ ≤ 262144) (l : List Att) (o : List Int) (hn : n < o.length) (hl : l.length ≤ 1048576) (hol : o.length ≤ 1048576) (hO : ∀ x ∈ l, x.evs.length ≤ 1048576 ∧ ∀ e ∈ x.evs, evB x.th e = true)
    (hr : ∀ i ∈ o, ∃ j : Nat, i = j ∧ j < l.length) (hf : first ≤ (attN l (o.getD n 0)).evs.length) (w : World) (ha : AttsAt w w.heap.size A l) (hi : IntsAt w O o) :
    Calls Try.prog 15 #[.slice A l.length c, .slice O o.length oc, .int .i64 n, .int .i64 first, .int .i64 at_] w fun e w' => e = .returned (.int .i64 (lastV l o n first at_)) ∧ Below w.heap.size w w' := by
  have HA := Lib.hid (fun W (h : Below w.heap.size w W) => ha.keep h (Nat.le_refl _))
  have HI := Lib.hid (fun W (h : Below w.heap.size w W) => hi.keep h)
  have HOK := Lib.hid hO
  have HR := Lib.hid hr
  have HF := Lib.hid hf
  have HV : Hid (lastV l o n first at_ = doV (heapAll l (o.take n)) ((attN l (o.getD n 0)).evs.take first) at_) := Lib.hid rfl
  clear ha hi hO hr hf
  generalize lastV l o n first at_ = res at *
  have p0 : (0 : Int) ≤ (n : Int) := Int.natCast_nonneg _
  go_enter Try.func15, Try.ntmps15
  go_wp2_with fail
  go_loopw [11, 12] (fun v i wr => ∃ (q : Nat) (vv : Int), i = .int .i64 q ∧ v = .int .i64 vv ∧ q ≤ n + 1 ∧ Hid (q ≤ n → vv = heapAll l (o.take q) at_) ∧ Hid (q = n + 1 → vv = res) ∧ Hid (Below w.heap.size w wr)) (fun _ i _ => n + 1 - (intOf i).toNat)
  case atStart => exact ⟨0, 0, rfl, rfl, Nat.zero_le _, Lib.hid (fun _ => rfl), Lib.hid (fun h => by omega), Lib.hid (Below.refl _ _)⟩
  case round =>
    obtain ⟨q, vv, rfl, rfl, hq, hvv, hend, hW⟩ := hrel
    by_cases hqn : q ≤ n
    · have hqo : q < o.length := by omega
      obtain ⟨gb, goff, rfl, hgl, hgc⟩ := HI.out _ hW.out (by rintro rfl; simp at hn)
      obtain ⟨i, hi, hil⟩ := HR.out _ (List.getElem_mem hqo)
      have e1 := hgc q _ (List.getElem?_eq_getElem hqo)
      rw [hi] at e1
      obtain ⟨b, off, rfl, hbl, hc⟩ := (HA.out _ hW.out).row (by rintro rfl; simp at hil)
      have c7 := (hc i _ (List.getElem?_eq_getElem hil)).c7
      have hev := Lib.hid (fun W (h : Below w.heap.size w W) => (HA.out _ h).evs _ (List.getElem_mem hil))
      obtain ⟨hxl, hxe⟩ := HOK.out _ (List.getElem_mem hil)
      have hel := Lib.hid hxe
      have hgi : attN l o[q] = l[i] := by rw [hi]; exact attN_get hil
      have hnext : Hid (heapAll l (o.take (q + 1)) = doV (heapAll l (o.take q)) l[i].evs) := Lib.hid (by rw [heapAll_snoc l hqo, hgi])
      have hlast : Hid (q = n → res = doV (heapAll l (o.take q)) (l[i].evs.take first) at_ ∧ first ≤ l[i].evs.length) := Lib.hid (fun e => by
        subst e
        have h1 : o.getD q 0 = o[q] := by rw [List.getD_eq_getElem?_getD, List.getElem?_eq_getElem hqo]; rfl
        have h2 := HV.out
        have h3 := HF.out
        rw [h1, hgi] at h2 h3
        exact ⟨h2, h3⟩)
      have hstart : Hid (vv = doV (heapAll l (o.take q)) (l[i].evs.take 0) at_) := Lib.hid (by rw [hvv.out hqn]; rfl)
      have p1 : (i : Int) < (l.length : Int) := by omega
      have p3 : (0 : Int) ≤ (i : Int) := Int.natCast_nonneg _
      have t0 : decide ((q : Int) ≤ (n : Int)) = true := by simp; omega
      have t0n : decide (q ≤ n) = true := by simpa using hqn
      clear hc hgc hgi hvv hend hxe
      generalize l[i] = x at *
      obtain ⟨th, xkd, bg, en, ck, pl, wt, dA, dc, evs⟩ := x
      dsimp only at *
      by_cases hqe : q = n
      · have t1 : ((q : Int) == (n : Int)) = true := by simp; omega
        have t1d : decide ((q : Int) = (n : Int)) = true := by simp; omega
        have t1n : decide (q = n) = true := by simpa using hqe
        have hfe := (hlast.out hqe).2
        have hfin : Hid (∀ x, x = doV (heapAll l (o.take q)) (evs.take first) at_ → (q + 1 ≤ n → x = heapAll l (o.take (q + 1)) at_) ∧ (q + 1 = n + 1 → x = res)) := Lib.hid (fun x hx => ⟨fun h => by omega, fun _ => by rw [hx, (hlast.out hqe).1]⟩)
        clear hlast hqe hnext
        go_wp2_with fail
        obtain ⟨wo, rfl⟩ : ∃ wo : World, wo = wr := ⟨_, rfl⟩
        go_loopw [11, 15] (fun v i wi => ∃ (k : Nat) (vv : Int), i = .int .i64 k ∧ v = .int .i64 vv ∧ k ≤ first ∧ Hid (vv = doV (heapAll l (o.take q)) (evs.take k) at_) ∧ Hid (Below w.heap.size w wi)) (fun _ i _ => first - (intOf i).toNat)
        case atStart => exact ⟨0, vv, rfl, rfl, Nat.zero_le _, hstart, hW⟩
        case round =>
          clear hstart hW
          obtain ⟨k, vv, rfl, rfl, hk, hvv, hW⟩ := hrel
          by_cases hkm : k < first
          · have hkl : k < evs.length := by omega
            obtain ⟨eb, eoff, rfl, -, hec⟩ := hev.out _ hW.out (by rintro rfl; simp at hkl)
            obtain ⟨e0, e1, e2, e3⟩ := hec k _ (List.getElem?_eq_getElem hkl)
            have hEb := hel.out _ (List.getElem_mem hkl)
            have hsn := Lib.hid (doV_snoc (heapAll l (o.take q)) hkl at_)
            have q3 : (0 : Int) ≤ (k : Int) := Int.natCast_nonneg _
            have q4 : (k : Int) < (evs.length : Int) := by omega
            clear hec
            generalize evs[k] = ev at *
            obtain ⟨eth, ekd, a, bv⟩ := ev
            have hev2 := evB_iff.1 hEb
            have HCH := Lib.hid (fun W => changes_any eth ekd a bv at_ ⟨by omega, by omega⟩ hat W)
            clear hEb hev2
            dsimp only at *
            obtain ⟨ch, hch⟩ : ∃ ch, chV ⟨eth, ekd, a, bv⟩ at_ = ch := ⟨_, rfl⟩
            rw [hch] at hsn HCH
            clear hch
            obtain ⟨c1, c2⟩ := ch
            dsimp only at hsn HCH
            cases c2
            · have hv2 : Hid (vv = doV (heapAll l (o.take q)) (evs.take (k + 1)) at_) := Lib.hid (by rw [hsn.out, hvv.out]; rfl)
              clear hsn hvv
              go_wp2_with fail
              refine (HCH.out _).mono ?_
              rintro e w2 ⟨rfl, hb2⟩
              have hW2 := Lib.hid (hW.out.trans (hb2.mono hW.out.size))
              clear hb2 hW
              go_wp2_with fail
              go_roundw
              case rel => exact ⟨k + 1, vv, by go_num, rfl, by omega, hv2, hW2⟩
              case measure => simp [intOf]; omega
            · have hv2 : Hid (c1 = doV (heapAll l (o.take q)) (evs.take (k + 1)) at_) := Lib.hid (by rw [hsn.out]; rfl)
              clear hsn hvv
              go_wp2_with fail
              refine (HCH.out _).mono ?_
              rintro e w2 ⟨rfl, hb2⟩
              have hW2 := Lib.hid (hW.out.trans (hb2.mono hW.out.size))
              clear hb2 hW
              go_wp2_with fail
              go_roundw
              case rel => exact ⟨k + 1, c1, by go_num, rfl, by omega, hv2, hW2⟩
              case measure => simp [intOf]; omega
          · obtain rfl : k = first := by omega
            have h2 := Lib.hid (hfin.out vv hvv.out)
            clear hvv hfin
            go_wp2_with fail
            go_roundw
            case rel => exact ⟨q + 1, vv, by go_num, rfl, by omega, Lib.hid h2.out.1, Lib.hid h2.out.2, hW⟩
            case measure => simp [intOf]; omega
      · have t1 : ((q : Int) == (n : Int)) = false := by simp; omega
        have t1d : decide ((q : Int) = (n : Int)) = false := by simp; omega
        have t1n : decide (q = n) = false := by simpa using hqe
        have hfe : evs.length ≤ evs.length := Nat.le_refl _
        have hfin : Hid (∀ x, x = doV (heapAll l (o.take q)) (evs.take evs.length) at_ → (q + 1 ≤ n → x = heapAll l (o.take (q + 1)) at_) ∧ (q + 1 = n + 1 → x = res)) := Lib.hid (fun x hx => ⟨fun _ => by rw [hx, List.take_length, hnext.out], fun h => by omega⟩)
        clear hlast hqe hnext
        go_wp2_with fail
        obtain ⟨wo, rfl⟩ : ∃ wo : World, wo = wr := ⟨_, rfl⟩
        go_loopw [11, 15] (fun v i wi => ∃ (k : Nat) (vv : Int), i = .int .i64 k ∧ v = .int .i64 vv ∧ k ≤ evs.length ∧ Hid (vv = doV (heapAll l (o.take q)) (evs.take k) at_) ∧ Hid (Below w.heap.size w wi)) (fun _ i _ => evs.length - (intOf i).toNat)
        case atStart => exact ⟨0, vv, rfl, rfl, Nat.zero_le _, hstart, hW⟩
        case round =>
          clear hstart hW
          obtain ⟨k, vv, rfl, rfl, hk, hvv, hW⟩ := hrel
          by_cases hkm : k < evs.length
          · have hkl : k < evs.length := by omega
            obtain ⟨eb, eoff, rfl, -, hec⟩ := hev.out _ hW.out (by rintro rfl; simp at hkl)
            obtain ⟨e0, e1, e2, e3⟩ := hec k _ (List.getElem?_eq_getElem hkl)
            have hEb := hel.out _ (List.getElem_mem hkl)
            have hsn := Lib.hid (doV_snoc (heapAll l (o.take q)) hkl at_)
            have q3 : (0 : Int) ≤ (k : Int) := Int.natCast_nonneg _
            have q4 : (k : Int) < (evs.length : Int) := by omega
            clear hec
            generalize evs[k] = ev at *
            obtain ⟨eth, ekd, a, bv⟩ := ev
            have hev2 := evB_iff.1 hEb
            have HCH := Lib.hid (fun W => changes_any eth ekd a bv at_ ⟨by omega, by omega⟩ hat W)
            clear hEb hev2
            dsimp only at *
            obtain ⟨ch, hch⟩ : ∃ ch, chV ⟨eth, ekd, a, bv⟩ at_ = ch := ⟨_, rfl⟩
            rw [hch] at hsn HCH
            clear hch
            obtain ⟨c1, c2⟩ := ch
            dsimp only at hsn HCH
            cases c2
            · have hv2 : Hid (vv = doV (heapAll l (o.take q)) (evs.take (k + 1)) at_) := Lib.hid (by rw [hsn.out, hvv.out]; rfl)
              clear hsn hvv
              go_wp2_with fail
              refine (HCH.out _).mono ?_
              rintro e w2 ⟨rfl, hb2⟩
              have hW2 := Lib.hid (hW.out.trans (hb2.mono hW.out.size))
              clear hb2 hW
              go_wp2_with fail
              go_roundw
              case rel => exact ⟨k + 1, vv, by go_num, rfl, by omega, hv2, hW2⟩
              case measure => simp [intOf]; omega
            · have hv2 : Hid (c1 = doV (heapAll l (o.take q)) (evs.take (k + 1)) at_) := Lib.hid (by rw [hsn.out]; rfl)
              clear hsn hvv
              go_wp2_with fail
              refine (HCH.out _).mono ?_
              rintro e w2 ⟨rfl, hb2⟩
              have hW2 := Lib.hid (hW.out.trans (hb2.mono hW.out.size))
              clear hb2 hW
              go_wp2_with fail
              go_roundw
              case rel => exact ⟨k + 1, c1, by go_num, rfl, by omega, hv2, hW2⟩
              case measure => simp [intOf]; omega
          · obtain rfl : k = evs.length := by omega
            have h2 := Lib.hid (hfin.out vv hvv.out)
            clear hvv hfin
            go_wp2_with fail
            go_roundw
            case rel => exact ⟨q + 1, vv, by go_num, rfl, by omega, Lib.hid h2.out.1, Lib.hid h2.out.2, hW⟩
            case measure => simp [intOf]; omega
    · have t0 : decide ((q : Int) ≤ (n : Int)) = false := by simp; omega
      have t0n : decide (q ≤ n) = false := by simpa using hqn
      have F : Hid (vv = res) := Lib.hid (hend.out (by omega))
      clear hvv hend hqn
      go_wp2_with fail
      go_ret
      exact ⟨ret_int F.out, hW.out⟩
end Go.Proofs.Ytjaegddnikkibaa
