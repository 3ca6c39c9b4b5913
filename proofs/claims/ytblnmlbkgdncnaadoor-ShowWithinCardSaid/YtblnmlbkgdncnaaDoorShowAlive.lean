/-
  What is so of whoever tells anything at all.
-/
import Derived.Test.YtblnmlbkgdncnaaDoorShowJ
set_option linter.unusedVariables false
set_option linter.unusedSimpArgs false
namespace Go.Proofs.YtblnmlbkgdncnaaDoor
open Go.RowKit

abbrev ty0 : Ty := ⟨0, [], 0⟩
abbrev hd0 : Hd := ⟨none, 0⟩
abbrev ex0 : Ex := .mk 0 0 [] ty0 hd0 []
abbrev ex5 : Ex := .mk 1 5 [] ty0 hd0 []
abbrev exN (S : Nat) : Ex := .mk 8 0 [] ty0 ⟨some ⟨S, 0, none⟩, 1⟩ [ex5]
theorem ty0_ok : ty0.Ok := ⟨by unfold u8ok; decide, by simp [lenOk], by unfold i64ok; decide⟩
theorem ex_leaf {w : World} {B : Nat} {k n : Int} (hk : u8ok k) (hn : i64ok n) : ExIn w B (.mk k n [] ty0 hd0 []) :=
  .mk hk hn (by simp [lenOk]) ty0_ok (by simp [lenOk]) (fun h => absurd rfl h) (fun y hy => by simp at hy)
theorem exN_in {w : World} {S : Nat} (h : w.heap[S]? = some (exObj ex5)) : ExIn w w.heap.size (exN S) :=
  .mk (by unfold u8ok; decide) (by unfold i64ok; decide) (by simp [lenOk]) ty0_ok (by simp [lenOk])
    (fun _ => ⟨S, 0, rfl, lt_of_blk h, fun i y hy => by
      match i, hy with
      | 0, hy => cases hy; exact ⟨cell_at h 0, cell_at h 1, cell_at h 2, cell_at h 3, cell_at h 4, cell_at h 5, cell_at h 6⟩
      | n + 1, hy => simp at hy⟩)
    (fun y hy => by rw [List.mem_singleton] at hy; subst hy; exact ex_leaf (by unfold u8ok; decide) (by unfold i64ok; decide))
theorem itoa5 : Lib.itoa 5 = [53] := by
  unfold Lib.itoa
  rw [if_neg (by decide)]
  exact decDigits_small (by decide)
theorem exN_show (S : Nat) : showEx (exN S) = ([45, 40, 53, 41], 0) := by
  have h1 : exFault (exN S) = 0 := by simp [exFault, chkEx, chkExs, itemC, exForm, arity, noTy, Ex.k, Ex.args, Ex.n, Ex.nm, Ex.t]
  have h2 : exText (exN S) = [45, 40, 53, 41] := by simp [exText, exTexts, exPut, itoa5, binB, digExs, digEx, brB, Ex.k]
  unfold showEx
  rw [h1, h2]
  simp
/-- a thread of an empty atomic statement -/
abbrev stA : St := .mk 5 [] ty0 ex0 ex0 hd0 [] hd0 []
abbrev prA (S1 S2 : Nat) : Pr := ⟨hd0, [], hd0, [], hd0, [], ⟨some ⟨S2, 0, none⟩, 1⟩, [⟨⟨some ⟨S1, 0, none⟩, 1⟩, [stA]⟩]⟩
abbrev stAObj : Obj := stObj 5 [] ty0 ex0 ex0 none 0 0 none 0 0
abbrev thObj (S1 : Nat) : Obj := .cells #[.slice (some ⟨S1, 0, none⟩) 1 1] 59 (0, 0)
theorem fls0_in {w : World} {B : Nat} : FlsIn w B hd0 [] := ⟨by simp [lenOk], fun h => absurd rfl h, fun f hf => by simp at hf⟩
theorem stA_in {w : World} {B : Nat} : StIn w B stA :=
  .mk (by unfold u8ok; decide) (by simp [lenOk]) ty0_ok (ex_leaf (by unfold u8ok; decide) (by unfold i64ok; decide)) (ex_leaf (by unfold u8ok; decide) (by unfold i64ok; decide))
    (by simp [lenOk]) (by simp [lenOk]) (fun h => absurd rfl h) (fun h => absurd rfl h) (fun s hs => by simp at hs) (fun s hs => by simp at hs)
theorem prA_in {w : World} {S1 S2 : Nat} (h1 : w.heap[S1]? = some stAObj) (h2 : w.heap[S2]? = some (thObj S1)) : PrIn w w.heap.size (prA S1 S2) :=
  ⟨by simp [lenOk], fun h => absurd rfl h, fun r hr => by simp at hr, fls0_in, by simp [lenOk], fun h => absurd rfl h, fun r hr => by simp at hr, by simp [lenOk],
    fun _ => ⟨S2, 0, rfl, lt_of_blk h2, fun i y hy => by
      match i, hy with
      | 0, hy => cases hy; exact ⟨cell_at h2 0⟩
      | n + 1, hy => simp at hy⟩,
    fun t ht => by
      rw [List.mem_singleton] at ht
      subst ht
      exact ⟨by simp [lenOk], fun _ => ⟨S1, 0, rfl, lt_of_blk h1, fun i y hy => by
        match i, hy with
        | 0, hy =>
          cases hy
          exact ⟨cell_at h1 0, cell_at h1 1, cell_at h1 2, cell_at h1 3, cell_at h1 4, ⟨cell_at h1 5, cell_at h1 6, cell_at h1 7, cell_at h1 8, cell_at h1 9, cell_at h1 10, cell_at h1 11⟩,
            ⟨cell_at h1 12, cell_at h1 13, cell_at h1 14, cell_at h1 15, cell_at h1 16, cell_at h1 17, cell_at h1 18⟩, cell_at h1 19, cell_at h1 20⟩
        | n + 1, hy => simp at hy⟩, fun s hs => by rw [List.mem_singleton] at hs; subst hs; exact stA_in⟩⟩
theorem prA_fault (S1 S2 : Nat) : faultOf (prA S1 S2) = (0, 0) := by
  simp [faultOf, chkPr, chkRes, chkShs, chkFus, chkThs, chkSts, chkSt, Chk.bind, itemC, stForm, noEx, noTy, St.k, St.x, St.y, St.nm, St.t, St.body, St.els, Ex.k, Ex.args, Ex.n, Ex.nm, Ex.t]
theorem prA_w (S1 S2 : Nat) : wPr (prA S1 S2) = [116, 104, 114, 101, 97, 100, 32, 123, 10, 32, 32, 97, 116, 111, 109, 105, 99, 32, 123, 10, 32, 32, 125, 10, 125, 10] := by
  simp [wPr, wFus, wThs, prHead, wSts, wSt]
theorem prA_show (S1 S2 : Nat) : showPr (prA S1 S2) = ([116, 104, 114, 101, 97, 100, 32, 123, 10, 32, 32, 97, 116, 111, 109, 105, 99, 32, 123, 10, 32, 32, 125, 10, 125, 10], 0) := by
  rw [showPr_of _ (by rw [prA_fault]), prA_w]
  rfl
/-- a record without fields -/
abbrev prR (S : Nat) : Pr := ⟨⟨some ⟨S, 0, none⟩, 1⟩, [⟨[114], hd0, []⟩], hd0, [], hd0, [], hd0, []⟩
abbrev reObj : Obj := .cells #[.string ⟨#[114]⟩, .slice none 0 0] 64 (0, 0)
theorem prR_in {w : World} {S : Nat} (h : w.heap[S]? = some reObj) : PrIn w w.heap.size (prR S) :=
  ⟨by simp [lenOk], fun _ => ⟨S, 0, rfl, lt_of_blk h, fun i y hy => by
      match i, hy with
      | 0, hy => cases hy; exact ⟨cell_at h 0, cell_at h 1⟩
      | n + 1, hy => simp at hy⟩, fun r hr => by rw [List.mem_singleton] at hr; subst hr; exact ⟨by simp [lenOk], fls0_in⟩, fls0_in, by simp [lenOk], fun h => absurd rfl h, fun r hr => by simp at hr, by simp [lenOk],
    fun h => absurd rfl h, fun r hr => by simp at hr⟩
theorem prR_fault (S : Nat) : (faultOf (prR S)).2 = 1 := by
  simp [faultOf, chkPr, chkRes, Chk.bind]

set_option maxHeartbeats 8000000 in
set_option maxRecDepth 100000 in
theorem alive03_any (w : World) (GL : LGlobs w) (GG : Globs w) :
    Calls Tryd.prog 7 #[] w fun e w' => e = .returned (.bool true) ∧ Below w.heap.size w w' := by
  have HG : Hid (∀ W', Below w.heap.size w W' → LGlobs W' ∧ Globs W') := Lib.hid fun W' hb => ⟨GL.below hb, GG.below hb⟩
  clear GL GG
  go_enter Tryd.func7, Tryd.ntmps7
  go_wp2_with fail
  obtain ⟨w1, hw1⟩ : ∃ w1, w.alloc (exObj ex5) = w1 := ⟨_, rfl⟩
  have hb1 : Below w.heap.size w w1 := by rw [← hw1]; exact (Below.refl _ _).alloc (Nat.le_refl _) _
  have x1 : w1.heap[w.heap.size]? = some (exObj ex5) := by rw [← hw1]; exact heap_alloc_new w _
  have C1 := sshowex_any (exN w.heap.size) w1 (HG.out _ hb1).1 (HG.out _ hb1).2 (exN_in x1)
  rw [exN_show, ← hw1] at C1
  have HB1 := Lib.hid hb1
  have HW1 := Lib.hid hw1
  clear hb1 x1 hw1
  refine C1.mono ?_
  rintro e w2 ⟨rfl, hb2⟩
  rw [HW1.out] at hb2
  have HB2 := Lib.hid (HB1.out.trans (hb2.mono HB1.out.size))
  clear hb2 C1
  go_wp2_with fail
  obtain ⟨w3, hw3⟩ : ∃ w3, w2.alloc stAObj = w3 := ⟨_, rfl⟩
  have hb3 : Below w2.heap.size w2 w3 := by rw [← hw3]; exact (Below.refl _ _).alloc (Nat.le_refl _) _
  have x3 : w3.heap[w2.heap.size]? = some stAObj := by rw [← hw3]; exact heap_alloc_new w2 _
  have hs3 : w3.heap.size = w2.heap.size + 1 := by rw [← hw3]; exact World.size_alloc _ _
  obtain ⟨w4, hw4⟩ : ∃ w4, w3.alloc (thObj w2.heap.size) = w4 := ⟨_, rfl⟩
  have hb4 : Below w3.heap.size w3 w4 := by rw [← hw4]; exact (Below.refl _ _).alloc (Nat.le_refl _) _
  have x4 : w4.heap[w2.heap.size + 1]? = some (thObj w2.heap.size) := by rw [← hw4, ← hs3]; exact heap_alloc_new w3 _
  have x34 : w4.heap[w2.heap.size]? = some stAObj := (hb4.block _ (lt_of_blk x3)).trans x3
  have HB4 : Hid (Below w.heap.size w w4) := Lib.hid ((HB2.out.trans (hb3.mono HB2.out.size)).trans (hb4.mono (Nat.le_trans HB2.out.size hb3.size)))
  have C2 := sprogram_any (prA w2.heap.size (w2.heap.size + 1)) w4 (HG.out _ HB4.out).1 (HG.out _ HB4.out).2 (prA_in x34 x4) (fun _ => by rw [prA_w]; simp)
  rw [prA_show, ← hw4, ← hw3] at C2
  have HW4 : Hid ((w2.alloc stAObj).alloc (thObj w2.heap.size) = w4) := Lib.hid (by rw [hw3, hw4])
  clear hw3 hb3 x3 hs3 hw4 hb4 x4 x34 HB1 HW1
  refine C2.mono ?_
  rintro e w5 ⟨rfl, hb5⟩
  rw [HW4.out] at hb5
  have HB5 := Lib.hid (HB4.out.trans (hb5.mono HB4.out.size))
  clear hb5 C2 HB2 HW4 HB4
  go_wp2_with fail
  obtain ⟨w6, hw6⟩ : ∃ w6, w5.alloc reObj = w6 := ⟨_, rfl⟩
  have hb6 : Below w5.heap.size w5 w6 := by rw [← hw6]; exact (Below.refl _ _).alloc (Nat.le_refl _) _
  have x6 : w6.heap[w5.heap.size]? = some reObj := by rw [← hw6]; exact heap_alloc_new w5 _
  have HB6 := Lib.hid (HB5.out.trans (hb6.mono HB5.out.size))
  have C3 := scheck_any w6.heap.size (prR w5.heap.size) w6 (GlB.of (HG.out _ HB6.out).1) (prR_in x6)
  rw [prR_fault, ← hw6] at C3
  have HW6 := Lib.hid hw6
  clear hw6 hb6 x6 HB5
  refine C3.mono ?_
  rintro e w7 ⟨rfl, hb7⟩
  rw [HW6.out] at hb7
  have HB7 := Lib.hid (HB6.out.trans (hb7.mono HB6.out.size))
  clear hb7 C3 HW6 HB6
  go_wp2_with fail
  go_ret
  exact ⟨rfl, HB7.out⟩
end Go.Proofs.YtblnmlbkgdncnaaDoor
