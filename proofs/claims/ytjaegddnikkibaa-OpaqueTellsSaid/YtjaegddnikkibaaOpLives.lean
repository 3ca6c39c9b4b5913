/-
  Law 30's lives: closed attempts, their checks.
-/
import Derived.Test.YtjaegddnikkibaaOpCheck
import Derived.Test.YtjaegddnikkibaaOwnKit
import Derived.Test.YtjaegddnikkibaaOwn
import Derived.Test.YtjaegddnikkibaaRegion
set_option linter.unusedVariables false
set_option linter.unusedSimpArgs false
namespace Go.Proofs.Ytjaegddnikkibaa
open Go.RowKit Go.Sort Go.Maps

theorem attsAt_of {W : World} {b : Nat} {l : List Att} {t : TypeId} {fr : Nat × Nat} (hb : W.heap[b]? = some (.cells (l.flatMap Att.cells).toArray t fr)) (he : ∀ x ∈ l, EvsAt W W.heap.size x.dA x.evs) : AttsAt W W.heap.size (some ⟨b, 0, none⟩) l := by
  refine ⟨fun _ => ⟨b, 0, rfl, (Array.getElem?_eq_some_iff.1 hb).1, fun k x hk => ?_⟩, he⟩
  have key : ∀ j, j < 8 → W.cell? ⟨b, 0 + k * 8 + j, none⟩ = x.cells[j]? := fun j hj => by
    rw [Nat.zero_add]
    have := flat_at Att.cells 8 (fun _ => rfl) l k j x hk hj
    simp only [World.cell?, hb, Option.isSome_none, Bool.false_eq_true, if_false, List.getElem?_toArray]
    exact this
  exact ⟨key 0 (by decide), key 1 (by decide), key 2 (by decide), key 3 (by decide), key 4 (by decide), key 5 (by decide), key 6 (by decide), key 7 (by decide)⟩
theorem evsAt_of {W : World} {b : Nat} {l : List Ev} {t : TypeId} {fr : Nat × Nat} (hb : W.heap[b]? = some (.cells (l.flatMap Ev.cells).toArray t fr)) : EvsAt W W.heap.size (some ⟨b, 0, none⟩) l := by
  refine fun _ => ⟨b, 0, rfl, (Array.getElem?_eq_some_iff.1 hb).1, fun k x hk => ?_⟩
  have key : ∀ j, j < 4 → W.cell? ⟨b, 0 + k * 4 + j, none⟩ = x.cells[j]? := fun j hj => by
    rw [Nat.zero_add]
    have := flat_at Ev.cells 4 (fun _ => rfl) l k j x hk hj
    simp only [World.cell?, hb, Option.isSome_none, Bool.false_eq_true, if_false, List.getElem?_toArray]
    exact this
  exact ⟨key 0 (by decide), key 1 (by decide), key 2 (by decide), key 3 (by decide)⟩
theorem evsAt_one {W : World} {b : Nat} {e : Ev} (h : EvAt W b 0 e) : EvsAt W W.heap.size (some ⟨b, 0, none⟩) [e] := fun _ => ⟨b, 0, rfl, World.block_lt_of_cell? _ _ h.c0, fun k x hk => by
  match k, hk with
  | 0, hk =>
    simp only [List.getElem?_cons_zero, Option.some.injEq] at hk
    subst hk
    exact h⟩
theorem evAt_new (w : World) (th kd a b : Int) (t : TypeId) : EvAt (w.alloc (.cells #[.int .i64 th, .int .u8 kd, .int .i64 a, .int .i64 b] t (0, 0))) w.heap.size 0 ⟨th, kd, a, b⟩ := ⟨by simp, by simp, by simp, by simp⟩

def i64B (n : Int) : Bool := decide (-9223372036854775808 ≤ n) && decide (n ≤ 9223372036854775807)
def okEvB (e : Ev) : Bool := i64B e.th && (decide (0 ≤ e.kd) && decide (e.kd ≤ 255)) && i64B e.a && i64B e.b
def okAttB (x : Att) : Bool := i64B x.th && (decide (0 ≤ x.kd) && decide (x.kd ≤ 255)) && i64B x.bg && i64B x.en && i64B x.ck && i64B x.pl && decide (x.evs.length ≤ 1000) && x.evs.all okEvB
theorem i64_of {n : Int} (h : i64B n = true) : i64ok n := by
  unfold i64B at h; simp only [Bool.and_eq_true, decide_eq_true_eq] at h; exact h
theorem ok_of {l : List Att} (h : l.all okAttB = true) : ∀ x ∈ l, x.Ok := fun x hx => by
  have h1 := List.all_eq_true.1 h x hx
  unfold okAttB at h1
  simp only [Bool.and_eq_true, decide_eq_true_eq] at h1
  obtain ⟨⟨⟨⟨⟨⟨⟨a0, a1⟩, a2⟩, a3⟩, a4⟩, a5⟩, a6⟩, a7⟩ := h1
  refine ⟨i64_of a0, a1, i64_of a2, i64_of a3, i64_of a4, i64_of a5, by omega, fun e he => ?_⟩
  have h2 := List.all_eq_true.1 a7 e he
  unfold okEvB at h2
  simp only [Bool.and_eq_true, decide_eq_true_eq] at h2
  exact ⟨i64_of h2.1.1.1, h2.1.1.2, i64_of h2.1.2, i64_of h2.2⟩

/-- the checks of closed attempts -/
theorem ocheck_is {b c : Nat} (l : List Att) (r1 r2 : Int) (hr : ocheckV l = (r1, r2)) (hn : l.length ≤ 1048576) (ho : l.all okAttB = true) {W : World} {t : TypeId} {fr : Nat × Nat} (hb : W.heap[b]? = some (.cells (l.flatMap Att.cells).toArray t fr)) (he : ∀ x ∈ l, EvsAt W W.heap.size x.dA x.evs) :
    Calls Try.prog 17 #[.slice (some ⟨b, 0, none⟩) l.length c] W fun e w' => e = .returned (.tuple #[.int .i64 r1, .int .i64 r2]) ∧ Below W.heap.size W w' :=
  (ocheck_any _ c l hn (ok_of ho) W (attsAt_of hb he)).mono fun e w' h => ⟨by rw [h.1, hr], h.2⟩
theorem oown_is {b c : Nat} (l : List Att) (r1 r2 : Int) (hr : oownV l = (r1, r2)) (hn : l.length ≤ 1048576) (ho : l.all okAttB = true) {W : World} {t : TypeId} {fr : Nat × Nat} (hb : W.heap[b]? = some (.cells (l.flatMap Att.cells).toArray t fr)) (he : ∀ x ∈ l, EvsAt W W.heap.size x.dA x.evs) :
    Calls Try.prog 18 #[.slice (some ⟨b, 0, none⟩) l.length c] W fun e w' => e = .returned (.tuple #[.int .i64 r1, .int .i64 r2]) ∧ Below W.heap.size W w' :=
  (oown_any _ c l hn (ok_of ho) W (attsAt_of hb he)).mono fun e w' h => ⟨by rw [h.1, hr], h.2⟩
theorem mem_two {p : Att → Prop} {x y : Att} (h1 : p x) (h2 : p y) : ∀ z ∈ [x, y], p z := fun z hz => by
  simp only [List.mem_cons, List.not_mem_nil, or_false] at hz
  rcases hz with rfl | rfl <;> assumption
theorem mem_one {p : Att → Prop} {x : Att} (h1 : p x) : ∀ z ∈ [x], p z := fun z hz => by
  simp only [List.mem_cons, List.not_mem_nil, or_false] at hz
  subst hz; exact h1

set_option maxHeartbeats 400000 in
theorem event_any (k a b : Int) (w : World) : Calls Try.prog 24 #[.int .u8 k, .int .i64 a, .int .i64 b] w fun e w' => e = .returned (.agg #[.int .i64 0, .int .u8 k, .int .i64 a, .int .i64 b]) ∧ Below w.heap.size w w' := by
  have hB := Lib.hid (fun o => (Below.refl w.heap.size w).alloc (Nat.le_refl _) o)
  go_enter Try.func24, Try.ntmps24
  go_wp2_with fail
  refine bodyPost_ret (v := .agg #[.int .i64 0, .int .u8 k, .int .i64 a, .int .i64 b]) (by simp [results, Try.results24, go_sem]) rfl ?_
  exact ⟨rfl, hB.out _⟩
set_option maxHeartbeats 400000 in
theorem did_any (bg en ck pl : Int) (dA : Option Addr) (n c : Nat) (w : World) : Calls Try.prog 23 #[.int .i64 bg, .int .i64 en, .int .i64 ck, .int .i64 pl, .slice dA n c] w fun e w' =>
    e = .returned (.agg #[.int .i64 0, .int .u8 1, .int .i64 bg, .int .i64 en, .int .i64 ck, .int .i64 pl, .bool true, .slice dA n c]) ∧ Below w.heap.size w w' := by
  have hB := Lib.hid (fun o => (Below.refl w.heap.size w).alloc (Nat.le_refl _) o)
  go_enter Try.func23, Try.ntmps23
  go_wp2_with fail
  refine bodyPost_ret (v := .agg #[.int .i64 0, .int .u8 1, .int .i64 bg, .int .i64 en, .int .i64 ck, .int .i64 pl, .bool true, .slice dA n c]) (by simp [results, Try.results23, go_sem]) rfl ?_
  exact ⟨rfl, hB.out _⟩
set_option maxHeartbeats 800000 in
theorem gave_any (th bg en ck : Int) (B : Nat) (ev : Ev) (w : World) (h : EvAt w B 0 ev) (hf : w.frozen? ⟨B, 0, none⟩ = false) : Calls Try.prog 25 #[.int .i64 th, .int .i64 bg, .int .i64 en, .int .i64 ck, .slice (some ⟨B, 0, none⟩) 1 1] w fun e w' =>
    e = .returned (.agg #[.int .i64 th, .int .u8 2, .int .i64 bg, .int .i64 en, .int .i64 ck, .int .i64 0, .bool false, .slice (some ⟨B, 0, none⟩) 1 1]) ∧ EvAt w' B 0 ⟨th, ev.kd, ev.a, ev.b⟩ ∧ MapF B w w' := by
  have hlt := World.block_lt_of_cell? _ _ h.c0
  obtain ⟨eth, ekd, ea, eb⟩ := ev
  obtain ⟨c0, c1, c2, c3⟩ := h
  dsimp only at c0 c1 c2 c3
  have hE1 : EvAt (w.setCell ⟨B, 0, none⟩ (.int .i64 th)) B 0 ⟨th, ekd, ea, eb⟩ := ⟨World.cell?_setCell_same _ _ _ c0, (World.cell?_setCell_other _ _ _ _ (by simp)).trans c1, (World.cell?_setCell_other _ _ _ _ (by simp)).trans c2, (World.cell?_setCell_other _ _ _ _ (by simp)).trans c3⟩
  have HE := Lib.hid (fun o => hE1.keep fun o' => ((Below.refl (w.setCell ⟨B, 0, none⟩ (.int .i64 th)).heap.size _).alloc (Nat.le_refl _) o).cell (p := ⟨B, o', none⟩) (by simpa using hlt))
  have HM : Hid (∀ o, MapF B w ((w.setCell ⟨B, 0, none⟩ (.int .i64 th)).alloc o)) := Lib.hid (fun o => MapF.alloc (w := w.setCell ⟨B, 0, none⟩ (.int .i64 th)) (⟨rfl, rfl, rfl, by simp, fun k hk hm => heap_setCell_other _ _ k _ (fun e => hm (by simpa using e))⟩ : MapF B w (w.setCell ⟨B, 0, none⟩ (.int .i64 th))) o)
  clear hE1
  have X1 : w.heap.size ≠ B := fun e => by rw [e] at hlt; exact Nat.lt_irrefl _ hlt
  go_enter Try.func25, Try.ntmps25
  go_wp2
  refine wp_loop_rounds 2 ?_
  rw [rounds_succ]
  go_wp2
  rw [rounds_succ]
  go_wp2
  refine bodyPost_ret (v := .agg #[.int .i64 th, .int .u8 2, .int .i64 bg, .int .i64 en, .int .i64 ck, .int .i64 0, .bool false, .slice (some ⟨B, 0, none⟩) 1 1]) (by simp [results, Try.results25, go_sem]) rfl ?_
  exact ⟨rfl, HE.out _, HM.out _⟩

/-- what a region reads: the attempt at X -/
abbrev LivS (w0 : World) (X : Nat) (th kd bg en ck pl : Int) (wt : Bool) (B : Nat) (n : Nat) (w' : World) : Prop :=
  Below w0.heap.size w0 w' ∧ w'.cell? ⟨X, 0, none⟩ = some (.int .i64 th) ∧ w'.cell? ⟨X, 1, none⟩ = some (.int .u8 kd) ∧ w'.cell? ⟨X, 2, none⟩ = some (.int .i64 bg) ∧ w'.cell? ⟨X, 3, none⟩ = some (.int .i64 en) ∧ w'.cell? ⟨X, 4, none⟩ = some (.int .i64 ck) ∧
    w'.cell? ⟨X, 5, none⟩ = some (.int .i64 pl) ∧ w'.cell? ⟨X, 6, none⟩ = some (.bool wt) ∧ w'.cell? ⟨X, 7, none⟩ = some (.slice (some ⟨B, 0, none⟩) n n)
theorem livS_new (w : World) (th kd bg en ck pl : Int) (wt : Bool) (B n : Nat) (t : TypeId) : LivS (w.alloc (.cells #[.int .i64 th, .int .u8 kd, .int .i64 bg, .int .i64 en, .int .i64 ck, .int .i64 pl, .bool wt, .slice (some ⟨B, 0, none⟩) n n] t (0, 0))) w.heap.size th kd bg en ck pl wt B n (w.alloc (.cells #[.int .i64 th, .int .u8 kd, .int .i64 bg, .int .i64 en, .int .i64 ck, .int .i64 pl, .bool wt, .slice (some ⟨B, 0, none⟩) n n] t (0, 0))) :=
  ⟨Below.refl _ _, by simp, by simp, by simp, by simp, by simp, by simp, by simp, by simp⟩
theorem LivS.keep {w0 : World} {X : Nat} {th kd bg en ck pl : Int} {wt : Bool} {B n : Nat} {w1 w2 w3 : World} (h : LivS w0 X th kd bg en ck pl wt B n w1) (hX : X < w2.heap.size) (h2 : Below w0.heap.size w1 w2) (h3 : Below w2.heap.size w2 w3) (h12 : Below w1.heap.size w1 w2) (hX1 : X < w1.heap.size) : LivS w2 X th kd bg en ck pl wt B n w3 := by
  obtain ⟨-, a0, a1, a2, a3, a4, a5, a6, a7⟩ := h
  have K := fun o => (h3.cell (p := ⟨X, o, none⟩) hX).trans (h12.cell (p := ⟨X, o, none⟩) hX1)
  exact ⟨h3, (K 0).trans a0, (K 1).trans a1, (K 2).trans a2, (K 3).trans a3, (K 4).trans a4, (K 5).trans a5, (K 6).trans a6, (K 7).trans a7⟩
/-- the attempt at X, in a world from which on it is kept -/
theorem livS_hid {w0 : World} {X : Nat} {th kd bg en ck pl : Int} {wt : Bool} {B n : Nat} (h : LivS w0 X th kd bg en ck pl wt B n w0) {w : World} (hw : Below w0.heap.size w0 w) : Hid (∀ W, Below w.heap.size w W → LivS w X th kd bg en ck pl wt B n W) := Lib.hid (fun W hW => by
  obtain ⟨-, a0, a1, a2, a3, a4, a5, a6, a7⟩ := h
  have hX := World.block_lt_of_cell? _ _ a0
  have K := fun o => (hW.cell (p := ⟨X, o, none⟩) (Nat.lt_of_lt_of_le hX hw.size)).trans (hw.cell (p := ⟨X, o, none⟩) hX)
  exact ⟨hW, (K 0).trans a0, (K 1).trans a1, (K 2).trans a2, (K 3).trans a3, (K 4).trans a4, (K 5).trans a5, (K 6).trans a6, (K 7).trans a7⟩)


set_option maxHeartbeats 2000000 in
set_option maxRecDepth 100000 in
theorem lives30_any (w : World) : Calls Try.prog 22 #[] w fun e w' => e = .returned (.bool true) ∧ Below w.heap.size w w' := by
  go_enter Try.func22, Try.ntmps22
  go_wp2_with fail
  refine (event_any 3 1 5 _).mono ?_
  rintro e w1 ⟨rfl, hb1⟩
  have HB1 := Lib.hid hb1
  clear hb1
  go_wp2_with fail
  refine (did_any 0 2 0 1 (some ⟨w1.heap.size, 0, none⟩) 1 1 _).mono ?_
  rintro e w2 ⟨rfl, hb2⟩
  have HE0 : Hid (EvsAt w2 w2.heap.size (some ⟨w1.heap.size, 0, none⟩) [⟨0, 3, 1, 5⟩]) := Lib.hid ((evsAt_one (evAt_new w1 0 3 1 5 _)).keep hb2 hb2.size)
  have HB2 : Hid (Below w.heap.size w w2) := Lib.hid (HB1.out.trans (((Below.refl w1.heap.size w1).alloc (Nat.le_refl _) _).trans (hb2.mono (by simp)) |>.mono HB1.out.size))
  clear hb2
  obtain ⟨B1, hB1⟩ : ∃ B, w1.heap.size = B := ⟨_, rfl⟩
  have HE0 : Hid (EvsAt w2 w2.heap.size (some ⟨B1, 0, none⟩) [⟨0, 3, 1, 5⟩]) := by rw [← hB1]; exact HE0
  obtain ⟨X, hX⟩ : ∃ X, w2.heap.size = X := ⟨_, rfl⟩
  rw [hB1]
  clear hB1
  have HL0 := Lib.hid (livS_new w2 0 1 0 2 0 1 true B1 1 35)
  obtain ⟨wp, hwp⟩ : ∃ wp, w2.alloc (.cells #[.int .i64 0, .int .u8 1, .int .i64 0, .int .i64 2, .int .i64 0, .int .i64 1, .bool true, .slice (some ⟨B1, 0, none⟩) 1 1] 35 (0, 0)) = wp := ⟨_, rfl⟩
  have HL : Hid (LivS wp X 0 1 0 2 0 1 true B1 1 wp) := Lib.hid (by rw [← hwp, ← hX]; exact HL0.out)
  have HS := livS_hid HL.out (Below.refl _ _)
  have HWP : Hid (Below w.heap.size w wp) := Lib.hid (by rw [← hwp]; exact HB2.out.alloc HB2.out.size _)
  have HE1 : Hid (∀ W, Below wp.heap.size wp W → EvsAt W W.heap.size (some ⟨B1, 0, none⟩) [⟨0, 3, 1, 5⟩]) := Lib.hid (fun W h => (HE0.out.keep (by rw [← hwp]; exact (Below.refl _ _).alloc (Nat.le_refl _) _) (by rw [← hwp]; simp : w2.heap.size ≤ wp.heap.size)).keep h h.size)
  clear HL0 HE0
  go_wp2_with fail
  clear hwp hX
  refine wp_region_L (l := 10) (S := (LivS wp X 0 1 0 2 0 1 true B1 1)) (by kernel_rfl) ?_ (fun hHeld => ?_)
  · ((try dsimp only); (exact HS.out _ (Below.refl _ _).drew))
  refine wpAnyL_take (i := 0) (oi := _) (v := ?v1) rfl (by kernel_rfl) (fun _ _ _ h => h) (by assumption) (Or.inl ⟨by kernel_rfl, ?y1⟩) ?r1
  case y1 => (intro w hSw; (try dsimp only at hSw); go_simp; all_goals with_reducible rfl)
  try simp only [Act.put, List.setIfInBounds_toArray, List.set_cons_zero, List.set_cons_succ]
  refine wpAnyL_step (j := 1) (o := _) (by kernel_rfl) rfl (fun K hK => ?_)
  (go_simp; go_at_call 24; refine (event_any 2 1 5 _).mono ?_; rintro e w3 ⟨rfl, hb3⟩; have hs3 := Nat.le_trans hHeld.1.size hb3.size)
  refine hK _ _ ?_ (fun hHeld => ?_)
  · ((try dsimp only); (exact HS.out _ (hHeld.1.trans (hb3.mono hHeld.1.size))))
  clear hK K
  try simp only [Act.put, List.setIfInBounds_toArray, List.set_cons_zero, List.set_cons_succ]
  refine wpAnyL_step (j := 2) (o := _) (by kernel_rfl) rfl (fun K hK => ?_)
  go_simp
  refine hK _ _ ?_ (fun hHeld => ?_)
  · ((try dsimp only); (exact HS.out _ (hHeld.1.alloc hHeld.1.size _)))
  clear hK K
  try simp only [Act.put, List.setIfInBounds_toArray, List.set_cons_zero, List.set_cons_succ]
  refine wpAnyL_step (j := 3) (o := _) (by kernel_rfl) rfl (fun K hK => ?_)
  (go_simp; go_at_call 25; refine (gave_any 1 3 5 1 w3.heap.size ⟨0, 2, 1, 5⟩ _ (evAt_new w3 0 2 1 5 _) (by simp)).mono ?_; rintro e w4 ⟨rfl, hE4, hM4⟩)
  refine hK _ _ ?_ (fun hHeld => ?_)
  · ((try dsimp only); (exact HS.out _ (hHeld.1.trans ((hM4.below (by simp)).mono hs3))))
  clear hK K
  try simp only [Act.put, List.setIfInBounds_toArray, List.set_cons_zero, List.set_cons_succ]
  refine wpAnyL_step (j := 4) (o := _) (by kernel_rfl) rfl (fun K hK => ?_)
  go_simp
  refine hK _ _ ?_ (fun hHeld => ?_)
  · ((try dsimp only); (exact HS.out _ (hHeld.1.alloc hHeld.1.size _)))
  clear hK K
  try simp only [Act.put, List.setIfInBounds_toArray, List.set_cons_zero, List.set_cons_succ]
  refine wpAnyL_step (j := 5) (o := _) (by kernel_rfl) rfl (fun K hK => ?_)
  (go_simp; go_at_call 17; refine (ocheck_is (b := w4.heap.size) (c := 2) [⟨0, 1, 0, 2, 0, 1, true, some ⟨B1, 0, none⟩, 1, [⟨0, 3, 1, 5⟩]⟩, ⟨1, 2, 3, 5, 1, 0, false, some ⟨w3.heap.size, 0, none⟩, 1, [⟨1, 2, 1, 5⟩]⟩] 0 0 (by kernel_rfl) (by simp) (by kernel_rfl) (heap_alloc_new w4 _) (mem_two (HE1.out _ hHeld.1) ((evsAt_one hE4).keep ((Below.refl _ _).alloc (Nat.le_refl _) _) (by simp)))).mono ?_; rintro e w5 ⟨rfl, hb5⟩)
  refine hK _ _ ?_ (fun hHeld => ?_)
  · ((try dsimp only); (exact HS.out _ (hHeld.1.trans (hb5.mono hHeld.1.size))))
  clear hK K
  try simp only [Act.put, List.setIfInBounds_toArray, List.set_cons_zero, List.set_cons_succ]
  refine wpAnyL_take (i := 6) (oi := _) (v := ?v7) rfl (by kernel_rfl) (fun _ _ _ h => h) (by assumption) (Or.inl ⟨by kernel_rfl, ?y7⟩) ?r7
  case y7 => (intro w hSw; (try dsimp only at hSw); go_simp; all_goals with_reducible rfl)
  try simp only [Act.put, List.setIfInBounds_toArray, List.set_cons_zero, List.set_cons_succ]
  refine wpAnyL_take (i := 7) (oi := _) (v := ?v8) rfl (by kernel_rfl) (fun _ _ _ h => h) (by assumption) (Or.inl ⟨by kernel_rfl, ?y8⟩) ?r8
  case y8 => (intro w hSw; (try dsimp only at hSw); go_simp; all_goals with_reducible rfl)
  try simp only [Act.put, List.setIfInBounds_toArray, List.set_cons_zero, List.set_cons_succ]
  refine wpAnyL_take (i := 8) (oi := _) (v := ?v9) rfl (by kernel_rfl) (fun _ _ _ h => h) (by assumption) (Or.inl ⟨by kernel_rfl, ?y9⟩) ?r9
  case y9 => (intro w hSw; (try dsimp only at hSw); go_simp; all_goals with_reducible rfl)
  try simp only [Act.put, List.setIfInBounds_toArray, List.set_cons_zero, List.set_cons_succ]
  refine wpAnyL_take (i := 9) (oi := _) (v := ?v10) rfl (by kernel_rfl) (fun _ _ _ h => h) (by assumption) (Or.inl ⟨by kernel_rfl, ?y10⟩) ?r10
  case y10 => (intro w hSw; (try dsimp only at hSw); go_simp; all_goals with_reducible rfl)
  try simp only [Act.put, List.setIfInBounds_toArray, List.set_cons_zero, List.set_cons_succ]
  refine wpAnyL_last (j := 10) (o := _) (by kernel_rfl) rfl (by rfl) (by kernel_rfl) (fun K hK => ?_)
  go_simp
  (refine hK _ _ ?_; clear hK K)
  try simp only [Act.put, List.setIfInBounds_toArray, List.set_cons_zero, List.set_cons_succ]
  have HWP1 := Lib.hid (HWP.out.trans (hHeld.1.mono HWP.out.size))
  have HE1 := Lib.hid (fun W (h : Below w5.heap.size w5 W) => HE1.out W (hHeld.1.trans (h.mono hHeld.1.size)))
  have HS := livS_hid HL.out hHeld.1
  clear hHeld hb3 hs3 hE4 hM4 hb5
  obtain ⟨wq, rfl⟩ : ∃ wq, wq = w5 := ⟨_, rfl⟩
  go_wp2_with fail
  refine wp_region_L (l := 10) (S := (LivS wq X 0 1 0 2 0 1 true B1 1)) (by kernel_rfl) ?_ (fun hHeld => ?_)
  · ((try dsimp only); (exact HS.out _ (Below.refl _ _).drew))
  refine wpAnyL_take (i := 0) (oi := _) (v := ?v12) rfl (by kernel_rfl) (fun _ _ _ h => h) (by assumption) (Or.inl ⟨by kernel_rfl, ?y12⟩) ?r12
  case y12 => (intro w hSw; (try dsimp only at hSw); go_simp; all_goals with_reducible rfl)
  try simp only [Act.put, List.setIfInBounds_toArray, List.set_cons_zero, List.set_cons_succ]
  refine wpAnyL_step (j := 1) (o := _) (by kernel_rfl) rfl (fun K hK => ?_)
  (go_simp; go_at_call 24; refine (event_any 2 1 0 _).mono ?_; rintro e w3 ⟨rfl, hb3⟩; have hs3 := Nat.le_trans hHeld.1.size hb3.size)
  refine hK _ _ ?_ (fun hHeld => ?_)
  · ((try dsimp only); (exact HS.out _ (hHeld.1.trans (hb3.mono hHeld.1.size))))
  clear hK K
  try simp only [Act.put, List.setIfInBounds_toArray, List.set_cons_zero, List.set_cons_succ]
  refine wpAnyL_step (j := 2) (o := _) (by kernel_rfl) rfl (fun K hK => ?_)
  go_simp
  refine hK _ _ ?_ (fun hHeld => ?_)
  · ((try dsimp only); (exact HS.out _ (hHeld.1.alloc hHeld.1.size _)))
  clear hK K
  try simp only [Act.put, List.setIfInBounds_toArray, List.set_cons_zero, List.set_cons_succ]
  refine wpAnyL_step (j := 3) (o := _) (by kernel_rfl) rfl (fun K hK => ?_)
  (go_simp; go_at_call 25; refine (gave_any 1 3 5 1 w3.heap.size ⟨0, 2, 1, 0⟩ _ (evAt_new w3 0 2 1 0 _) (by simp)).mono ?_; rintro e w4 ⟨rfl, hE4, hM4⟩)
  refine hK _ _ ?_ (fun hHeld => ?_)
  · ((try dsimp only); (exact HS.out _ (hHeld.1.trans ((hM4.below (by simp)).mono hs3))))
  clear hK K
  try simp only [Act.put, List.setIfInBounds_toArray, List.set_cons_zero, List.set_cons_succ]
  refine wpAnyL_step (j := 4) (o := _) (by kernel_rfl) rfl (fun K hK => ?_)
  go_simp
  refine hK _ _ ?_ (fun hHeld => ?_)
  · ((try dsimp only); (exact HS.out _ (hHeld.1.alloc hHeld.1.size _)))
  clear hK K
  try simp only [Act.put, List.setIfInBounds_toArray, List.set_cons_zero, List.set_cons_succ]
  refine wpAnyL_step (j := 5) (o := _) (by kernel_rfl) rfl (fun K hK => ?_)
  (go_simp; go_at_call 17; refine (ocheck_is (b := w4.heap.size) (c := 2) [⟨0, 1, 0, 2, 0, 1, true, some ⟨B1, 0, none⟩, 1, [⟨0, 3, 1, 5⟩]⟩, ⟨1, 2, 3, 5, 1, 0, false, some ⟨w3.heap.size, 0, none⟩, 1, [⟨1, 2, 1, 0⟩]⟩] 1 17 (by kernel_rfl) (by simp) (by kernel_rfl) (heap_alloc_new w4 _) (mem_two (HE1.out _ hHeld.1) ((evsAt_one hE4).keep ((Below.refl _ _).alloc (Nat.le_refl _) _) (by simp)))).mono ?_; rintro e w5 ⟨rfl, hb5⟩)
  refine hK _ _ ?_ (fun hHeld => ?_)
  · ((try dsimp only); (exact HS.out _ (hHeld.1.trans (hb5.mono hHeld.1.size))))
  clear hK K
  try simp only [Act.put, List.setIfInBounds_toArray, List.set_cons_zero, List.set_cons_succ]
  refine wpAnyL_take (i := 6) (oi := _) (v := ?v18) rfl (by kernel_rfl) (fun _ _ _ h => h) (by assumption) (Or.inl ⟨by kernel_rfl, ?y18⟩) ?r18
  case y18 => (intro w hSw; (try dsimp only at hSw); go_simp; all_goals with_reducible rfl)
  try simp only [Act.put, List.setIfInBounds_toArray, List.set_cons_zero, List.set_cons_succ]
  refine wpAnyL_take (i := 7) (oi := _) (v := ?v19) rfl (by kernel_rfl) (fun _ _ _ h => h) (by assumption) (Or.inl ⟨by kernel_rfl, ?y19⟩) ?r19
  case y19 => (intro w hSw; (try dsimp only at hSw); go_simp; all_goals with_reducible rfl)
  try simp only [Act.put, List.setIfInBounds_toArray, List.set_cons_zero, List.set_cons_succ]
  refine wpAnyL_take (i := 8) (oi := _) (v := ?v20) rfl (by kernel_rfl) (fun _ _ _ h => h) (by assumption) (Or.inl ⟨by kernel_rfl, ?y20⟩) ?r20
  case y20 => (intro w hSw; (try dsimp only at hSw); go_simp; all_goals with_reducible rfl)
  try simp only [Act.put, List.setIfInBounds_toArray, List.set_cons_zero, List.set_cons_succ]
  refine wpAnyL_take (i := 9) (oi := _) (v := ?v21) rfl (by kernel_rfl) (fun _ _ _ h => h) (by assumption) (Or.inl ⟨by kernel_rfl, ?y21⟩) ?r21
  case y21 => (intro w hSw; (try dsimp only at hSw); go_simp; all_goals with_reducible rfl)
  try simp only [Act.put, List.setIfInBounds_toArray, List.set_cons_zero, List.set_cons_succ]
  refine wpAnyL_last (j := 10) (o := _) (by kernel_rfl) rfl (by rfl) (by kernel_rfl) (fun K hK => ?_)
  go_simp
  (refine hK _ _ ?_; clear hK K)
  try simp only [Act.put, List.setIfInBounds_toArray, List.set_cons_zero, List.set_cons_succ]
  have HWP2 := Lib.hid (HWP1.out.trans (hHeld.1.mono HWP1.out.size))
  clear hHeld hb3 hs3 hE4 hM4 hb5
  go_wp2_with fail
  go_ret
  exact ⟨rfl, HWP2.out⟩
end Go.Proofs.Ytjaegddnikkibaa
