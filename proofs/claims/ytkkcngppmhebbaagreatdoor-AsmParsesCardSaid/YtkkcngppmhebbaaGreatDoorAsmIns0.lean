/-
  asm's reader: an instruction more, a jump more, as worlds. No walk.
-/
import Derived.Test.YtkkcngppmhebbaaGreatDoorAsmRd
set_option linter.unusedVariables false
set_option linter.unusedSimpArgs false
namespace Go.Proofs.YtkkcngppmhebbaaGreatDoor
open Go.RowKit

theorem infoOp : (Tryz.prog.info? 79).map (fun i => (i.zero, i.size, i.bytes)) = some (some (.agg #[.int .u8 0, .int .u8 0, .int .u8 0, .int .u8 0, .int .u8 0, .int .i64 0]), 6, 16) := by kernel_rfl
theorem infoGoal : (Tryz.prog.info? 75).map (fun i => (i.zero, i.size, i.bytes)) = some (some (.agg #[.int .i64 0, .int .i64 0, .string ⟨#[]⟩]), 3, 32) := by kernel_rfl
theorem parseV_cases (l : List UInt8) : (∃ v, parseV ⟨l.toArray⟩ = (v, 0)) ∨ parseV ⟨l.toArray⟩ = (0, 13) := by
  by_cases h : ∃ v, -9223372036854775808 ≤ v ∧ v ≤ 9223372036854775807 ∧ l = Lib.itoa v
  · obtain ⟨v, h1, h2, h3⟩ := h
    exact .inl ⟨v, parseV_of h1 h2 h3⟩
  · exact .inr (parseV_no fun v h1 h2 h3 => h ⟨v, h1, h2, h3⟩)
theorem partsV_letters {k : Int} {f : Form} (h : formV k = some f) : ∀ p ∈ partsV k, p = 99 ∨ p = 114 ∨ p = 110 ∨ p = 108 := by
  rcases formV_cases k with (rfl | rfl | rfl | rfl | rfl | rfl | rfl | rfl | rfl | rfl | rfl | rfl | rfl | rfl | rfl) | ⟨h0, -⟩
  all_goals first | (rw [h0] at h; cases h; done) | decide
theorem own_slice {W : World} {B e k n : Nat} {v : Value} {xs : List Value} (h : W.ownsRow B e k v n xs) : ∃ A cp, v = .slice A n cp := by
  rcases h.2 with ⟨rfl, rfl⟩ | ⟨g, cap, cur, rfl, -⟩
  · exact ⟨none, 0, rfl⟩
  · exact ⟨some ⟨g, 0, none⟩, cap, rfl⟩
theorem flat_snoc (l : List Cmd) (o : Cmd) : (l ++ [o]).flatMap Cmd.cells = l.flatMap Cmd.cells ++ o.cells := by simp
theorem gflat_snoc (l : List (Nat × Nat × List UInt8)) (g : Nat × Nat × List UInt8) : (l ++ [g]).flatMap goalCells = l.flatMap goalCells ++ goalCells g := by simp
section
variable {H RB MB Xo Xp Xi : Nat} {w : World} {r : Rd} {line : Nat} {ps : List UInt8} {pos : Nat} {o : Cmd} {g : List (List UInt8)} {vl vg : Value} {W w4 w5 : World} {v' : Value}
/-- an instruction more: behind the append -/
theorem InSt.app (h : InSt H RB MB Xo Xp Xi w r line ps pos o g vl vg W) (hH : H ≤ RB) (hXo : w.heap.size ≤ Xo)
    (hb : Below W.heap.size W w4) (hg : w4.grownBy w5 vl.ownBlock) (ho : w5.ownsRow H 79 6 v' (r.ops.length + 1) (r.ops.flatMap Cmd.cells ++ o.cells)) :
    (w5.cell? ⟨RB, 0, none⟩ = some vl ∧ w5.frozen? ⟨RB, 0, none⟩ = false) ∧
    w5.heap[Xo]? = some (.cells #[.int .u8 o.k, .int .u8 o.c, .int .u8 o.a, .int .u8 o.b, .int .u8 o.d, .int .i64 o.n] 79 (0, 0)) ∧
    (w5.setCell ⟨RB, 0, none⟩ v').heap[Xo]? = some (.cells #[.int .u8 o.k, .int .u8 o.c, .int .u8 o.a, .int .u8 o.b, .int .u8 o.d, .int .i64 o.n] 79 (0, 0)) ∧
    RdAt H RB MB { r with ops := r.ops ++ [o], goals := r.goals ++ g.map fun x => (r.ops.length, line, x) } v' vg (w5.setCell ⟨RB, 0, none⟩ v') ∧
    FrB H okT w (w5.setCell ⟨RB, 0, none⟩ v') := by
  have h4 := h.below hb
  have keep : ∀ k, k < w4.heap.size → vl.ownBlock ≠ some k → w5.heap[k]? = w4.heap[k]? := fun k hk hne => hg.block k hk (fun e => hne e.symm)
  have hRB4 := h4.rd.blk
  have nRB : vl.ownBlock ≠ some RB := fun e => by
    obtain ⟨-, cs, hcs⟩ := own_kind h4.rd.ops e
    rw [hRB4] at hcs; injection hcs with hcs; injection hcs with _ hcs; exact absurd hcs (by decide)
  have nXo : vl.ownBlock ≠ some Xo := fun e => by have := h.lo _ e; omega
  have nMB : vl.ownBlock ≠ some MB := fun e => by
    obtain ⟨-, cs, hcs⟩ := own_kind h4.rd.ops e
    obtain ⟨es, cl, hm⟩ := h4.rd.map.block
    rw [hm] at hcs; cases hcs
  have nRX : Xo ≠ RB := fun e => by
    have h1 := h4.o
    rw [e, hRB4] at h1; injection h1 with h1; injection h1 with _ h1; exact absurd h1 (by decide)
  have nMR : MB ≠ RB := fun e => by
    obtain ⟨es, cl, hm⟩ := h4.rd.map.block
    rw [e, hRB4] at hm; cases hm
  have hRB5 := (keep RB (Array.getElem?_eq_some_iff.1 hRB4).1 nRB).trans hRB4
  have hXo5 := (keep Xo (Array.getElem?_eq_some_iff.1 h4.o).1 nXo).trans h4.o
  have hvR : v'.ownBlock ≠ some RB := fun e => by
    obtain ⟨-, cs, hcs⟩ := own_kind ho e
    rw [hRB5] at hcs; injection hcs with hcs; injection hcs with _ hcs; exact absurd hcs (by decide)
  have hgo := own_keptBy h4.rd.goals hg (fun k hk e => own_ne h4.rd.ops h4.rd.goals (by decide) k e hk)
  have hgR : vg.ownBlock ≠ some RB := fun e => by
    obtain ⟨-, cs, hcs⟩ := own_kind h4.rd.goals e
    rw [hRB4] at hcs; injection hcs with hcs; injection hcs with _ hcs; exact absurd hcs (by decide)
  refine ⟨⟨cell_of hRB5 0, frz_of hRB5 0⟩, hXo5, blk_set_ne hXo5 nRX 0 v', ⟨?_, ?_, ?_, ?_⟩, ?_⟩
  · have := blk_set hRB5 0 v'
    simpa using this
  · have := own_set_other ho (p := ⟨RB, 0, none⟩) hvR v'
    simp only [List.length_append, List.length_singleton, flat_snoc]
    exact this
  · exact own_set_other hgo (p := ⟨RB, 0, none⟩) hgR v'
  · exact h4.rd.map.of_block ((setCell_heap _ _ _ _ _ nMR).trans (keep MB h4.rd.map.lt nMB))
  · have f45 : FrB H okT w4 w5 := FrB.grown h4.rd.ops (by decide) hg
    exact ((h4.fr.trans f45).trans (FrB.setObj hH hRB5 (by decide) v'))
/-- a jump more: behind the append -/
theorem InSt.goal (h : InSt H RB MB Xo Xp Xi w r line ps pos o g vl vg W) (hH : H ≤ RB) (hRB : RB < w.heap.size) (hXo : w.heap.size ≤ Xo) (hXp : w.heap.size ≤ Xp) (x : List UInt8)
    (hb : Below W.heap.size W w4) (hg : w4.grownBy w5 vg.ownBlock)
    (ho : w5.ownsRow H 75 3 v' (r.goals.length + g.length + 1) ((r.goals ++ g.map fun x => (r.ops.length, line, x)).flatMap goalCells ++ goalCells (r.ops.length, line, x))) :
    (w5.cell? ⟨RB, 2, none⟩ = some vg ∧ w5.frozen? ⟨RB, 2, none⟩ = false) ∧ w5.cell? ⟨RB, 0, none⟩ = some vl ∧
    InSt H RB MB Xo Xp Xi w r line ps pos o (g ++ [x]) vl v' (w5.setCell ⟨RB, 2, none⟩ v') := by
  have h4 := h.below hb
  have keep : ∀ k, k < w4.heap.size → vg.ownBlock ≠ some k → w5.heap[k]? = w4.heap[k]? := fun k hk hne => hg.block k hk (fun e => hne e.symm)
  have hRB4 := h4.rd.blk
  have kind : ∀ {k : Nat} {cs : Array Value} {T : TypeId} {fz : Nat × Nat}, w4.heap[k]? = some (.cells cs T fz) → T ≠ 75 → vg.ownBlock ≠ some k := fun hk hT e => by
    obtain ⟨-, cs, hcs⟩ := own_kind h4.rd.goals e
    rw [hk] at hcs; injection hcs with hcs; injection hcs with _ hcs; exact hT hcs
  have nRB := kind hRB4 (by decide)
  have nXo := kind h4.o (by decide)
  have nXp := kind h4.p (by decide)
  have nXi : vg.ownBlock ≠ some Xi := fun e => by
    obtain ⟨-, cs, hcs⟩ := own_kind h4.rd.goals e
    rw [h4.i] at hcs; cases hcs
  have nMB : vg.ownBlock ≠ some MB := fun e => by
    obtain ⟨-, cs, hcs⟩ := own_kind h4.rd.goals e
    obtain ⟨es, cl, hm⟩ := h4.rd.map.block
    rw [hm] at hcs; cases hcs
  have nRX : Xo ≠ RB := fun e => by omega
  have nRp : Xp ≠ RB := fun e => by omega
  have nRi : Xi ≠ RB := fun e => by
    have h1 := h4.i
    rw [e, hRB4] at h1; cases h1
  have nMR : MB ≠ RB := fun e => by
    obtain ⟨es, cl, hm⟩ := h4.rd.map.block
    rw [e, hRB4] at hm; cases hm
  have hRB5 := (keep RB (Array.getElem?_eq_some_iff.1 hRB4).1 nRB).trans hRB4
  have hXo5 := (keep Xo (Array.getElem?_eq_some_iff.1 h4.o).1 nXo).trans h4.o
  have hXp5 := (keep Xp (Array.getElem?_eq_some_iff.1 h4.p).1 nXp).trans h4.p
  have hXi5 := (keep Xi (Array.getElem?_eq_some_iff.1 h4.i).1 nXi).trans h4.i
  have hvR : v'.ownBlock ≠ some RB := fun e => by
    obtain ⟨-, cs, hcs⟩ := own_kind ho e
    rw [hRB5] at hcs; injection hcs with hcs; injection hcs with _ hcs; exact absurd hcs (by decide)
  have hop := own_keptBy h4.rd.ops hg (fun k hk e => own_ne h4.rd.ops h4.rd.goals (by decide) k hk e)
  have hlR : vl.ownBlock ≠ some RB := fun e => by
    obtain ⟨-, cs, hcs⟩ := own_kind h4.rd.ops e
    rw [hRB4] at hcs; injection hcs with hcs; injection hcs with _ hcs; exact absurd hcs (by decide)
  refine ⟨⟨cell_of hRB5 2, frz_of hRB5 2⟩, cell_of hRB5 0, ⟨⟨?_, ?_, ?_, ?_⟩, h.lo, blk_set_ne hXo5 nRX 2 v', blk_set_ne hXp5 nRp 2 v', blk_set_ne hXi5 nRi 2 v', ?_⟩⟩
  · have := blk_set hRB5 2 v'
    simpa using this
  · exact own_set_other hop (p := ⟨RB, 2, none⟩) hlR v'
  · have := own_set_other ho (p := ⟨RB, 2, none⟩) hvR v'
    simp only [List.map_append, List.map_cons, List.map_nil, List.length_append, List.length_map, List.length_singleton, ← List.append_assoc]
    rw [gflat_snoc]
    exact this
  · exact h4.rd.map.of_block ((setCell_heap _ _ _ _ _ nMR).trans (keep MB h4.rd.map.lt nMB))
  · have f45 : FrB H okT w4 w5 := FrB.grown h4.rd.goals (by decide) hg
    exact ((h4.fr.trans f45).trans (FrB.setObj hH hRB5 (by decide) v'))
end
end Go.Proofs.YtkkcngppmhebbaaGreatDoor
