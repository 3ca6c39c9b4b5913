/-
  A map from strings to int of the call's own, read as a function. No program in sight.
-/
import Derived.WalkKit
import Derived.Deep.QuietTactic
import Derived.Maps.Own
import Derived.Maps.OwnOps
import Derived.Maps.Views
import Derived.Maps.OwnSet
import Derived.StringKeys
set_option linter.unusedVariables false
set_option linter.unusedSimpArgs false
namespace Go.Proofs.YtkkcngppmhebbaaGreatDoor
open Go Go.Maps Go.RowKit

/-- block b is a map of at most n entries that reads as f; none: no such key -/
def StrMap (P : Program) (k e : TypeId) (w : World) (b n : Nat) (f : List UInt8 → Option Int) : Prop :=
  ∃ D : DataW Unit, w.ownsMap P k (plainElem P e) b n D ∧ ∀ x : List UInt8, has D (.string x) = (f x).isSome ∧ D.atKey (.string x) (.lit (.int .i64 0)) = .lit (.int .i64 ((f x).getD 0))
section
variable {P : Program} {k e t : TypeId} {w : World} {b n : Nat} {f : List UInt8 → Option Int}
theorem StrMap.made (P : Program) (k e : TypeId) (w : World) : StrMap P k e (w.alloc (.map #[] 0)) w.heap.size 0 (fun _ => none) :=
  ⟨_, World.ownsMap_made w P k _, fun _ => ⟨rfl, rfl⟩⟩
theorem StrMap.of_block {w' : World} (h : StrMap P k e w b n f) (hb : w'.heap[b]? = w.heap[b]?) : StrMap P k e w' b n f := by
  obtain ⟨D, ⟨es, clock, h1, h2⟩, h3⟩ := h
  exact ⟨D, ⟨es, clock, hb.trans h1, h2⟩, h3⟩
theorem StrMap.block (h : StrMap P k e w b n f) : ∃ es clock, w.heap[b]? = some (.map es clock) := by
  obtain ⟨D, ⟨es, clock, h1, h2⟩, h3⟩ := h
  exact ⟨es, clock, h1⟩
theorem StrMap.lt (h : StrMap P k e w b n f) : b < w.heap.size := by
  obtain ⟨es, clock, h1⟩ := h.block
  exact (Array.getElem?_eq_some_iff.1 h1).1
theorem StrMap.below {w' : World} (h : StrMap P k e w b n f) {B : Nat} (hb : Below B w w') (hB : b < B) : StrMap P k e w' b n f := h.of_block (hb.block b hB)
theorem StrMap.congr {g : List UInt8 → Option Int} (h : StrMap P k e w b n f) (hg : ∀ x, f x = g x) : StrMap P k e w b n g := by
  have : f = g := funext hg
  subst this; exact h
theorem bytes_size (x : List UInt8) : (⟨x.toArray⟩ : ByteArray).size = x.length := List.size_toArray
theorem StrMap.look (h : StrMap P k e w b n f) (ht : P.underlying t = some (.map k e)) (hk : P.underlying k = some .string) (he : P.underlying e = some (.int .i64)) (hz : (zeroValue e).run P w = .ok (.int .i64 0) w) {x : List UInt8} (hx : x.length ≤ maxLen) :
    (Instr.lookup t (.map (some b)) (.string ⟨x.toArray⟩) true).run P w = .ok (.tuple #[.int .i64 ((f x).getD 0), .bool (f x).isSome]) w := by
  obtain ⟨D, h1, h2⟩ := h
  have hkey : keyOf P k (.string ⟨x.toArray⟩) = some (.string x) := Go.WideMaps.keyOf_string_mk hk (by rw [bytes_size]; exact hx)
  obtain ⟨v, ps, hr, hat⟩ := h1.look_ok (string_keyed hk) ht hz (plainElem_int he (by decide)) hkey
  rw [(h2 x).2] at hat
  obtain ⟨c, rfl, hc, -⟩ := plainElem_int_inv he hat
  simp only [Prod.mk.injEq] at hc
  obtain ⟨hc, -⟩ := hc
  injection hc with hc
  injection hc with _ hc
  rw [hr, (h2 x).1, hc]
theorem StrMap.put (h : StrMap P k e w b n f) (ht : P.underlying t = some (.map k e)) (hk : P.underlying k = some .string) (he : P.underlying e = some (.int .i64)) (hn : n < maxLen) {x : List UInt8} {v : Int} (hx : x.length ≤ maxLen) (hv : (Lit.int .i64 v).wf = true) :
    ∃ w', (Instr.mapUpdate t (.map (some b)) (.string ⟨x.toArray⟩) (.int .i64 v)).run P w = .ok () w' ∧ StrMap P k e w' b (n + 1) (fun y => if y = x then some v else f y) ∧ w.grownBy w' (some b) := by
  obtain ⟨D, h1, h2⟩ := h
  have hkey : keyOf P k (.string ⟨x.toArray⟩) = some (.string x) := Go.WideMaps.keyOf_string_mk hk (by rw [bytes_size]; exact hx)
  obtain ⟨w', hr, ho, hg⟩ := h1.update (string_keyed hk) ht hn hkey (plainElem_int he hv)
  refine ⟨w', hr, ⟨_, ho, fun y => ?_⟩, hg⟩
  by_cases hyx : y = x
  · subst hyx
    simp only [if_true]
    exact ⟨by rw [has_put_same h1.isMap ((string_keyed hk).key hkey)]; rfl, atKey_put_same h1.isMap ((string_keyed hk).key hkey) _ _⟩
  · simp only [if_neg hyx]
    have hne : (Lit.string y) ≠ .string x := fun e => hyx (by injection e)
    rw [atKey_put_other hne _ _, has_put_other hne _]
    exact h2 y
end
end Go.Proofs.YtkkcngppmhebbaaGreatDoor
