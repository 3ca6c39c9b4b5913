/-
  A map from int64 to int64 of the call's own, read as a function. No program in sight.
-/
import Derived.WalkKit
import Derived.Deep.QuietTactic
import Derived.Maps.Own
import Derived.Maps.OwnOps
import Derived.Maps.Views
import Derived.Maps.OwnSet
set_option linter.unusedVariables false
set_option linter.unusedSimpArgs false
namespace Go.Proofs.YtjaegddnikkibaaGreatDoor
open Go Go.Maps Go.RowKit

/-- block b is a map of at most n entries that reads as f -/
def HeapAt (P : Program) (k : TypeId) (w : World) (b n : Nat) (f : Int → Int) : Prop :=
  ∃ D : DataW Unit, w.ownsMap P k (plainElem P k) b n D ∧ ∀ x, (Lit.int .i64 x).wf = true → D.atKey (.int .i64 x) (.lit (.int .i64 0)) = .lit (.int .i64 (f x))

section
variable {P : Program} {k t : TypeId} {w : World} {b n : Nat} {f : Int → Int}
theorem HeapAt.made (P : Program) (k : TypeId) (w : World) : HeapAt P k (w.alloc (.map #[] 0)) w.heap.size 0 (fun _ => 0) :=
  ⟨_, World.ownsMap_made w P k _, fun _ _ => rfl⟩
theorem HeapAt.drewN (h : HeapAt P k w b n f) (q : Nat) : HeapAt P k (w.drewN q) b n f := h
theorem HeapAt.drew (h : HeapAt P k w b n f) : HeapAt P k w.drew b n f := h
theorem HeapAt.of_block {w' : World} (h : HeapAt P k w b n f) (hb : w'.heap[b]? = w.heap[b]?) : HeapAt P k w' b n f := by
  obtain ⟨D, ⟨es, clock, h1, h2⟩, h3⟩ := h
  exact ⟨D, ⟨es, clock, hb.trans h1, h2⟩, h3⟩
theorem HeapAt.lt (h : HeapAt P k w b n f) : b < w.heap.size := by
  obtain ⟨D, ⟨es, clock, h1, h2⟩, h3⟩ := h
  exact (Array.getElem?_eq_some_iff.1 h1).1
theorem HeapAt.below {w' : World} (h : HeapAt P k w b n f) {B : Nat} (hb : Below B w w') (hB : b < B) : HeapAt P k w' b n f := h.of_block (hb.block b hB)
theorem HeapAt.alloc (h : HeapAt P k w b n f) (o : Obj) : HeapAt P k (w.alloc o) b n f := h.below (B := w.heap.size) ((Below.refl _ _).alloc (Nat.le_refl _) o) h.lt
theorem HeapAt.mono (h : HeapAt P k w b n f) {n' : Nat} (hn : n ≤ n') : HeapAt P k w b n' f := by
  obtain ⟨D, h1, h2⟩ := h
  exact ⟨D, h1.mono hn, h2⟩
theorem HeapAt.congr {g : Int → Int} (h : HeapAt P k w b n f) (hg : ∀ x, f x = g x) : HeapAt P k w b n g := by
  have : f = g := funext hg
  subst this; exact h
theorem HeapAt.look (h : HeapAt P k w b n f) (ht : P.underlying t = some (.map k k)) (hk : P.underlying k = some (.int .i64)) (hz : (zeroValue k).run P w = .ok (.int .i64 0) w) {x : Int} (hx : (Lit.int .i64 x).wf = true) :
    (Instr.lookup t (.map (some b)) (.int .i64 x) false).run P w = .ok (.int .i64 (f x)) w := by
  obtain ⟨D, h1, h2⟩ := h
  obtain ⟨c, hr, hat, -⟩ := h1.lookup_int (int_keyed hk) ht hk hz (keyOf_int_mk hk hx)
  rw [h2 x hx] at hat
  injection hat with hat
  injection hat with _ hat
  rw [hr, hat]
theorem HeapAt.put (h : HeapAt P k w b n f) (ht : P.underlying t = some (.map k k)) (hk : P.underlying k = some (.int .i64)) (hn : n < maxLen) {x v : Int} (hx : (Lit.int .i64 x).wf = true) (hv : (Lit.int .i64 v).wf = true) :
    ∃ w', (Instr.mapUpdate t (.map (some b)) (.int .i64 x) (.int .i64 v)).run P w = .ok () w' ∧ HeapAt P k w' b (n + 1) (fun y => if y = x then v else f y) ∧ w.grownBy w' (some b) := by
  obtain ⟨D, h1, h2⟩ := h
  have hkey := keyOf_int_mk hk hx
  obtain ⟨w', hr, ho, hg⟩ := h1.update (int_keyed hk) ht hn hkey (plainElem_int hk hv)
  refine ⟨w', hr, ⟨_, ho, fun y hy => ?_⟩, hg⟩
  by_cases hyx : y = x
  · subst hyx
    simp only [if_true]
    exact atKey_put_same h1.isMap ((int_keyed hk).key hkey) _ _
  · simp only [if_neg hyx]
    rw [atKey_put_other (fun e => hyx (by injection e)) _ _]
    exact h2 y hy
end
end Go.Proofs.YtjaegddnikkibaaGreatDoor
