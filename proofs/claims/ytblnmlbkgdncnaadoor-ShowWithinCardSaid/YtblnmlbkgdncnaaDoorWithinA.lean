/-
  A program of one thread that prints an expression, made.
-/
import Derived.Test.YtblnmlbkgdncnaaDoorShowAlive
import Derived.Test.YtblnmlbkgdncnaaDoorTreeWithin
set_option linter.unusedVariables false
set_option linter.unusedSimpArgs false
namespace Go.Proofs.YtblnmlbkgdncnaaDoor
open Go.RowKit

abbrev stB (x : Ex) : St := .mk 6 [] ty0 x ex0 hd0 [] hd0 []
abbrev prB (S1 S2 : Nat) (x : Ex) : Pr := ⟨hd0, [], hd0, [], hd0, [], ⟨some ⟨S2, 0, none⟩, 1⟩, [⟨⟨some ⟨S1, 0, none⟩, 1⟩, [stB x]⟩]⟩
abbrev stBObj (x : Ex) : Obj := stObj 6 [] ty0 x ex0 none 0 0 none 0 0
theorem prB_alone (S1 S2 : Nat) (x : Ex) : AloneIs (prB S1 S2 x) x := ⟨rfl, rfl, rfl, ⟨_, ex0, hd0, hd0, rfl, rfl⟩⟩
theorem prB_in {w : World} {S1 S2 : Nat} {x : Ex} (h1 : w.heap[S1]? = some (stBObj x)) (h2 : w.heap[S2]? = some (thObj S1)) (hx : ExIn w w.heap.size x) : PrIn w w.heap.size (prB S1 S2 x) :=
  ⟨by simp [lenOk], fun h => absurd rfl h, fun r hr => by simp at hr, fls0_in, by simp [lenOk], fun h => absurd rfl h, fun r hr => by simp at hr, by simp [lenOk],
    fun _ => ⟨S2, 0, rfl, lt_of_blk h2, fun i y hy => by
      match i, hy with
      | 0, hy => cases hy; exact ⟨cell_at h2 0⟩
      | n + 1, hy => simp at hy⟩,
    fun t ht => by
      rw [List.mem_singleton] at ht
      subst ht
      exact ⟨by simp [lenOk], fun _ => ⟨S1, 0, rfl, lt_of_blk h1, fun i y hy => by
        match i, hy with
        | 0, hy =>
          cases hy
          exact ⟨cell_at h1 0, cell_at h1 1, cell_at h1 2, cell_at h1 3, cell_at h1 4, ⟨cell_at h1 5, cell_at h1 6, cell_at h1 7, cell_at h1 8, cell_at h1 9, cell_at h1 10, cell_at h1 11⟩,
            ⟨cell_at h1 12, cell_at h1 13, cell_at h1 14, cell_at h1 15, cell_at h1 16, cell_at h1 17, cell_at h1 18⟩, cell_at h1 19, cell_at h1 20⟩
        | n + 1, hy => simp at hy⟩, fun s hs => by
          rw [List.mem_singleton] at hs
          subst hs
          exact .mk (by unfold u8ok; decide) (by simp [lenOk]) ty0_ok hx (ex_leaf (by unfold u8ok; decide) (by unfold i64ok; decide)) (by simp [lenOk]) (by simp [lenOk]) (fun h => absurd rfl h) (fun h => absurd rfl h) (fun s hs => by simp at hs) (fun s hs => by simp at hs)⟩⟩
theorem prB_ne (S1 S2 : Nat) (x : Ex) : wPr (prB S1 S2 x) ≠ [] := by
  simp [wPr, wFus, wThs, prHead]

theorem four_allocs (w : World) (o1 o2 o3 o4 : Obj) : Below w.heap.size w ((((w.alloc o1).alloc o2).alloc o3).alloc o4) ∧ ((((w.alloc o1).alloc o2).alloc o3).alloc o4).heap[w.heap.size + 1]? = some o2 ∧
    ((((w.alloc o1).alloc o2).alloc o3).alloc o4).heap[w.heap.size + 1 + 1]? = some o3 ∧ ((((w.alloc o1).alloc o2).alloc o3).alloc o4).heap[w.heap.size + 1 + 1 + 1]? = some o4 := by
  obtain ⟨w1, hw1⟩ : ∃ w1, w.alloc o1 = w1 := ⟨_, rfl⟩
  obtain ⟨w2, hw2⟩ : ∃ w2, w1.alloc o2 = w2 := ⟨_, rfl⟩
  obtain ⟨w3, hw3⟩ : ∃ w3, w2.alloc o3 = w3 := ⟨_, rfl⟩
  obtain ⟨w4, hw4⟩ : ∃ w4, w3.alloc o4 = w4 := ⟨_, rfl⟩
  have hs1 : w1.heap.size = w.heap.size + 1 := by rw [← hw1]; exact World.size_alloc _ _
  have hs2 : w2.heap.size = w.heap.size + 1 + 1 := by rw [← hw2, ← hs1]; exact World.size_alloc _ _
  have hs3 : w3.heap.size = w.heap.size + 1 + 1 + 1 := by rw [← hw3, ← hs2]; exact World.size_alloc _ _
  have hb1 : Below w.heap.size w w1 := by rw [← hw1]; exact (Below.refl _ _).alloc (Nat.le_refl _) _
  have hb2 : Below w1.heap.size w1 w2 := by rw [← hw2]; exact (Below.refl _ _).alloc (Nat.le_refl _) _
  have hb3 : Below w2.heap.size w2 w3 := by rw [← hw3]; exact (Below.refl _ _).alloc (Nat.le_refl _) _
  have hb4 : Below w3.heap.size w3 w4 := by rw [← hw4]; exact (Below.refl _ _).alloc (Nat.le_refl _) _
  have hb34 : Below w2.heap.size w2 w4 := hb3.trans (hb4.mono hb3.size)
  have hb24 : Below w1.heap.size w1 w4 := hb2.trans (hb34.mono hb2.size)
  rw [hw1, hw2, hw3, hw4]
  refine ⟨hb1.trans (hb24.mono hb1.size), (hb34.block _ (by omega)).trans ?_, (hb4.block _ (by omega)).trans ?_, ?_⟩
  · rw [← hw2, ← hs1]; exact heap_alloc_new w1 _
  · rw [← hw3, ← hs2]; exact heap_alloc_new w2 _
  · rw [← hw4, ← hs3]; exact heap_alloc_new w3 _
set_option maxHeartbeats 4000000 in
set_option maxRecDepth 100000 in
theorem salone_any (x : Ex) (w : World) :
    Calls Tryd.prog 12 #[x.val] w fun e w' => ∃ S1 S2, e = .returned (prB S1 S2 x).val ∧ Below w.heap.size w w' ∧ w'.heap[S1]? = some (stBObj x) ∧ w'.heap[S2]? = some (thObj S1) := by
  go_enter Tryd.func12, Tryd.ntmps12
  go_wp2_with fail
  have F := four_allocs w (.cells #[.int .u8 x.k, .int .i64 x.n, .string ⟨x.nm.toArray⟩, .int .u8 x.t.k, .string ⟨x.t.nm.toArray⟩, .int .i64 x.t.n, .slice x.d.a x.args.length x.d.c] 33 (0, 0))
    (.cells #[.slice none 0 0, .slice none 0 0, .slice none 0 0, .slice (some ⟨w.heap.size + 1 + 1 + 1, 0, none⟩) 1 1] 43 (0, 0)) (stBObj x) (thObj (w.heap.size + 1 + 1))
  have c0 := cell_at F.2.1 0
  have c1 := cell_at F.2.1 1
  have c2 := cell_at F.2.1 2
  have c3 := cell_at F.2.1 3
  simp only [List.getElem?_toArray, List.getElem?_cons_zero, List.getElem?_cons_succ] at c0 c1 c2 c3
  have HF := Lib.hid F
  clear F
  refine bodyPost_ret (v := (prB (w.heap.size + 1 + 1) (w.heap.size + 1 + 1 + 1) x).val) (by simp [results, Tryd.results12, go_sem, c0, c1, c2, c3]) rfl ?_
  exact ⟨_, _, rfl, HF.out.1, HF.out.2.2.1, HF.out.2.2.2⟩
end Go.Proofs.YtblnmlbkgdncnaaDoor
