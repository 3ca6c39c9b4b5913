/-
  ShowTypes: the law, walked.
-/
import Derived.Test.YtblnmlbkgdncnaaDoorShowAlive
import Derived.Test.YtblnmlbkgdncnaaDoorRef03
import Derived.Test.YtblnmlbkgdncnaaDoorTreeOpen
set_option linter.unusedVariables false
set_option linter.unusedSimpArgs false
namespace Go.Proofs.YtblnmlbkgdncnaaDoor
open Go.RowKit

set_option maxHeartbeats 4000000 in
set_option maxRecDepth 100000 in
theorem showTypes_walk (ty : Ty) (w : World) (hty : ty.Ok) (GL : LGlobs w) (GG : Globs w) :
    Calls Tryd.prog 3 #[.agg ty.cells.toArray] w fun e w' => e = .returned (.bool true) ∧ Below w.heap.size w w' := by
  obtain ⟨k, nm, n⟩ := ty
  have HG : Hid (∀ W', Below w.heap.size w W' → LGlobs W' ∧ Globs W') := Lib.hid fun W' hb => ⟨GL.below hb, GG.below hb⟩
  obtain ⟨X, hX⟩ : ∃ X, w.heap.size = X := ⟨_, rfl⟩
  obtain ⟨w1, hw1⟩ : ∃ w1, w.alloc (.cells #[.int .u8 k, .string ⟨nm.toArray⟩, .int .i64 n] 24 (0, 0)) = w1 := ⟨_, rfl⟩
  have hb1 : Below w.heap.size w w1 := by rw [← hw1]; exact (Below.refl _ _).alloc (Nat.le_refl _) _
  have x1 : w1.heap[X]? = some (.cells #[.int .u8 k, .string ⟨nm.toArray⟩, .int .i64 n] 24 (0, 0)) := by rw [← hw1, ← hX]; exact heap_alloc_new w _
  have C1 := Lib.hid (stype_any ⟨k, nm, n⟩ w1 (HG.out _ hb1).1 (HG.out _ hb1).2 hty)
  have C2 := Lib.hid (fun W => rtype_any ⟨k, nm, n⟩ hty W)
  generalize showTy ⟨k, nm, n⟩ = R at *
  obtain ⟨s, er⟩ := R
  have HN := Lib.hid (And.intro hX hw1)
  have HB1 := Lib.hid hb1
  have HX1 := Lib.hid x1
  dsimp only [Ty.cells]
  clear hX hw1 hb1 x1 hty GL GG
  go_enter Tryd.func3, Tryd.ntmps3
  go_wp2_with fail
  simp only [HN.out.1, HN.out.2]
  refine C1.out.mono ?_
  rintro e w2 ⟨rfl, hb2⟩
  have HB2 := Lib.hid (HB1.out.trans (hb2.mono HB1.out.size))
  have row := (hb2.block X (lt_of_blk HX1.out)).trans HX1.out
  have q0 := cell_at row 0
  have q1 := cell_at row 1
  have q2 := cell_at row 2
  simp only [List.getElem?_toArray, List.getElem?_cons_zero, List.getElem?_cons_succ] at q0 q1 q2
  clear hb2 row C1
  go_wp2_with fail
  refine (C2.out w2).mono ?_
  rintro e w3 ⟨rfl, hb3⟩
  have HB3 := Lib.hid (HB2.out.trans (hb3.mono HB2.out.size))
  clear hb3 C2 q0 q1 q2
  go_wp2_with fail
  refine (alive03_any w3 (HG.out _ HB3.out).1 (HG.out _ HB3.out).2).mono ?_
  rintro e w4 ⟨rfl, hb4⟩
  have HB4 := Lib.hid (HB3.out.trans (hb4.mono HB3.out.size))
  clear hb4
  go_wp2_with fail
  go_ret
  exact ⟨rfl, HB4.out⟩
end Go.Proofs.YtblnmlbkgdncnaaDoor
