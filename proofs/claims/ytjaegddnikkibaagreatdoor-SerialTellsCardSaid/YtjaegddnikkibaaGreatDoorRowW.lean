/-
  The worlds that a sort of numbers goes through. No program in sight.
-/
import Derived.WalkKit
import Derived.Deep.QuietTactic
import Derived.Sort.Row
import Derived.Test.YtjaegddnikkibaaGreatDoorSortPlain2
set_option linter.unusedVariables false
set_option linter.unusedSimpArgs false
namespace Go.Proofs.YtjaegddnikkibaaGreatDoor
open Go Go.Sort Go.RowKit

/-- a number below N + 1 as a cell -/
def encF (N : Nat) (i : Fin (N + 1)) : Value := .int .i64 (i.val : Int)
def numF (N : Nat) (i : Fin (N + 1)) : Int := (i.val : Int)

structure RowW (N : Nat) (w0 : World) (g off : Nat) (d : Array (Fin (N + 1))) (W : World) : Prop where
  os : W.os = w0.os
  tape : W.tape = w0.tape
  output : W.output = w0.output
  size : w0.heap.size ≤ W.heap.size
  block : ∀ k, k < w0.heap.size → k ≠ g → W.heap[k]? = w0.heap[k]?
  cell : ∀ j, j < d.size → W.cell? ⟨g, off + j, none⟩ = some (encF N d[j]!)
  free : ∀ j, j < d.size → W.frozen? ⟨g, off + j, none⟩ = false
  glt : g < w0.heap.size
  obj : ∀ (cur : Array Value) (t : TypeId), w0.heap[g]? = some (.cells cur t (0, 0)) → ∃ cur', W.heap[g]? = some (.cells cur' t (0, 0)) ∧ cur'.size = cur.size

section
variable {N : Nat} {w0 W W' : World} {g off : Nat} {d : Array (Fin (N + 1))}
theorem RowW.below (h : RowW N w0 g off d W) (hb : Below W.heap.size W W') : RowW N w0 g off d W' :=
  ⟨hb.os.trans h.os, hb.tape.trans h.tape, hb.output.trans h.output, Nat.le_trans h.size hb.size, fun k hk hg => (hb.block k (Nat.lt_of_lt_of_le hk h.size)).trans (h.block k hk hg),
    fun j hj => (hb.cell (p := ⟨g, off + j, none⟩) (Nat.lt_of_lt_of_le h.glt h.size)).trans (h.cell j hj), fun j hj => (hb.frozen (p := ⟨g, off + j, none⟩) (Nat.lt_of_lt_of_le h.glt h.size)).trans (h.free j hj), h.glt, fun cur t hc => by
      obtain ⟨cur', h1, h2⟩ := h.obj cur t hc
      exact ⟨cur', (hb.block g (Nat.lt_of_lt_of_le h.glt h.size)).trans h1, h2⟩⟩
theorem RowW.drewN (h : RowW N w0 g off d W) (q : Nat) : RowW N w0 g off d (W.drewN q) := ⟨h.os, h.tape, h.output, h.size, h.block, h.cell, h.free, h.glt, h.obj⟩
theorem RowW.drew (h : RowW N w0 g off d W) : RowW N w0 g off d W.drew := h.drewN 1
theorem RowW.start (hg : g < w0.heap.size) (hc : ∀ j, j < d.size → w0.cell? ⟨g, off + j, none⟩ = some (encF N d[j]!)) (hf : ∀ j, j < d.size → w0.frozen? ⟨g, off + j, none⟩ = false) : RowW N w0 g off d w0 :=
  ⟨rfl, rfl, rfl, Nat.le_refl _, fun _ _ _ => rfl, hc, hf, hg, fun cur _ h => ⟨cur, h, rfl⟩⟩
theorem cell_set (W : World) (g x y : Nat) (v : Value) (hx : ∃ u, W.cell? ⟨g, x, none⟩ = some u) : (W.setCell ⟨g, x, none⟩ v).cell? ⟨g, y, none⟩ = if y = x then some v else W.cell? ⟨g, y, none⟩ := by
  obtain ⟨u, hu⟩ := hx
  by_cases h : y = x
  · subst h; rw [if_pos rfl]; exact World.cell?_setCell_same _ _ _ hu
  · rw [if_neg h]; exact World.cell?_setCell_other _ _ _ _ (by intro e; simp only [Addr.mk.injEq] at e; omega)
theorem RowW.second (h : RowW N w0 g off d W) {i j : Nat} (hi : i < d.size) (hj : j < d.size) (v : Value) : ∃ u, (W.setCell ⟨g, off + i, none⟩ v).cell? ⟨g, off + j, none⟩ = some u := by
  rw [cell_set W g _ _ v ⟨_, h.cell i hi⟩]
  split
  · exact ⟨_, rfl⟩
  · exact ⟨_, h.cell j hj⟩
theorem RowW.swap (h : RowW N w0 g off d W) {i j : Nat} (hi : i < d.size) (hj : j < d.size) :
    RowW N w0 g off (swp d i j) ((W.setCell ⟨g, off + i, none⟩ (encF N d[j]!)).setCell ⟨g, off + j, none⟩ (encF N d[i]!)) := by
  refine ⟨h.os, h.tape, h.output, by simpa using h.size, fun k hk hg => ?_, fun x hx => ?_, fun x hx => ?_, h.glt, fun cur t hc => ?_⟩
  · rw [heap_setCell_other _ _ k _ (fun e => hg (by simpa using e)), heap_setCell_other _ _ k _ (fun e => hg (by simpa using e))]
    exact h.block k hk hg
  · rw [size_swp] at hx
    rw [cell_set _ g _ _ _ (h.second hi hj _), cell_set W g _ _ _ ⟨_, h.cell i hi⟩, swp_get d hi hj x]
    by_cases h1 : x = j
    · subst h1; rw [if_pos rfl, if_pos rfl]
    · rw [if_neg (by omega), if_neg h1]
      by_cases h2 : x = i
      · subst h2; rw [if_pos rfl, if_pos rfl]
      · rw [if_neg (by omega), if_neg h2, h.cell x hx]
  · rw [size_swp] at hx
    rw [World.frozen?_setCell, World.frozen?_setCell]
    exact h.free x hx
  · obtain ⟨cur', h1, h2⟩ := h.obj cur t hc
    exact ⟨_, heap_setCell_same _ g _ _ t _ (heap_setCell_same _ g _ _ t _ h1), by simpa using h2⟩
/-- an owned row stays one -/
theorem RowW.own (h : RowW N w0 g 0 d W) {base n cap : Nat} {T : TypeId} {xs : List Value} (ho : w0.ownsRow base T 1 (.slice (some ⟨g, 0, none⟩) n cap) n xs) (hd : d.size = n) (o : List Int) (hy : d.toList.map (numF N) = o) :
    W.ownsRow base T 1 (.slice (some ⟨g, 0, none⟩) n cap) n (o.map (Value.int .i64)) := by
  obtain ⟨hl, h2⟩ := ho
  rcases h2 with ⟨h', _⟩ | ⟨g', cap', cur, h', hb, hg, hnc, hcm, hcs, htake⟩
  · simp at h'
  · simp only [Value.slice.injEq, Option.some.injEq, Addr.mk.injEq, and_true, true_and] at h'
    obtain ⟨rfl, rfl⟩ := h'
    obtain ⟨cur', h1, hsz⟩ := h.obj cur T hg
    refine ⟨by rw [← hy]; simp [hd], .inr ⟨g, cap, cur', rfl, hb, h1, hnc, hcm, by omega, ?_⟩⟩
    apply List.ext_getElem?
    intro j
    rw [List.getElem?_take]
    by_cases hj : j < n
    · rw [if_pos (by omega)]
      have hc := h.cell j (by omega)
      rw [Nat.zero_add, cell_of_row W g j cur' T (0, 0) h1] at hc
      rw [Array.getElem?_toList, hc, ← hy, List.getElem?_map, List.getElem?_map, Array.getElem?_toList, Array.getElem?_eq_getElem (by omega : j < d.size), getElem!_pos d j (by omega)]
      rfl
    · rw [if_neg (by omega), List.getElem?_eq_none (by rw [← hy]; simp; omega)]
/-- the exchange's cells, all that a walk asks -/
theorem RowW.pair (h : RowW N w0 g off d W) {i j : Nat} (hi : i < d.size) (hj : j < d.size) :
    W.cell? ⟨g, off + i, none⟩ = some (.int .i64 ((d[i]!).val : Int)) ∧ W.cell? ⟨g, off + j, none⟩ = some (.int .i64 ((d[j]!).val : Int)) ∧ W.frozen? ⟨g, off + i, none⟩ = false ∧ W.frozen? ⟨g, off + j, none⟩ = false ∧
    (∃ u, (W.setCell ⟨g, off + i, none⟩ (.int .i64 ((d[j]!).val : Int))).cell? ⟨g, off + j, none⟩ = some u) :=
  ⟨h.cell i hi, h.cell j hj, h.free i hi, h.free j hj, h.second hi hj _⟩
end

/-- what is asked of the comparing function -/
def CmpW (P : Program) (N : Nat) (K : FuncId) (cb : Array Value) (cf : Fin (N + 1) → Fin (N + 1) → Int) (w0 : World) (g off n : Nat) : Prop :=
  ∀ (W : World) (d : Array (Fin (N + 1))), d.size = n → RowW N w0 g off d W → ∀ x y, Calls P K (#[.int .i64 (x.val : Int), .int .i64 (y.val : Int)] ++ cb) W fun e w' => e = .returned (.int .i64 (cf x y)) ∧ Below W.heap.size W w'
def ltC {N : Nat} (cf : Fin (N + 1) → Fin (N + 1) → Int) (x y : Fin (N + 1)) : Bool := decide (cf x y < 0)
end Go.Proofs.YtjaegddnikkibaaGreatDoor
