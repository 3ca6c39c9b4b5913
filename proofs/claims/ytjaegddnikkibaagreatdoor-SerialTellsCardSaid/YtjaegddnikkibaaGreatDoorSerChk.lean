/-
  serial.Check: its first half (the least ends of those behind).
-/
import Derived.Test.YtjaegddnikkibaaGreatDoorBackw
import Derived.Test.YtjaegddnikkibaaGreatDoorCalmIn
import Derived.Test.YtjaegddnikkibaaGreatDoorSerPlain
import Derived.Test.YtjaegddnikkibaaGreatDoorHeapDo
import Derived.Test.YtjaegddnikkibaaGreatDoorOrder
import Derived.Test.YtjaegddnikkibaaGreatDoorChkPlain
import Derived.OwnWalk
set_option linter.unusedVariables false
set_option linter.unusedSimpArgs false
namespace Go.Proofs.YtjaegddnikkibaaGreatDoor
open Go.RowKit Go.Sort Go.Maps Go.Shelf
attribute [local go_sem] Oper.semAt_some

/-- block g begins with these numbers -/
def RowAt (W : World) (g : Nat) (R : List Int) : Prop := ∃ cur : Array Value, W.heap[g]? = some (.cells cur 3 (0, 0)) ∧ ∀ (j : Nat) (v : Int), R[j]? = some v → cur[j]? = some (.int .i64 v)
theorem RowAt.cell {W : World} {g : Nat} {R : List Int} (h : RowAt W g R) {j : Nat} {v : Int} (hj : R[j]? = some v) : W.cell? ⟨g, j, none⟩ = some (.int .i64 v) := by
  obtain ⟨cur, h1, h2⟩ := h
  simp [World.cell?, h1, h2 j v hj]
theorem RowAt.frozen {W : World} {g : Nat} {R : List Int} (h : RowAt W g R) (j : Nat) : W.frozen? ⟨g, j, none⟩ = false := by
  obtain ⟨cur, h1, h2⟩ := h
  simp [World.frozen?, h1]
theorem RowAt.of_block {W W' : World} {g : Nat} {R : List Int} (h : RowAt W g R) (hb : W'.heap[g]? = W.heap[g]?) : RowAt W' g R := by
  obtain ⟨cur, h1, h2⟩ := h
  exact ⟨cur, hb.trans h1, h2⟩
theorem RowAt.lt {W : World} {g : Nat} {R : List Int} (h : RowAt W g R) : g < W.heap.size := by
  obtain ⟨cur, h1, h2⟩ := h
  exact (Array.getElem?_eq_some_iff.1 h1).1
theorem heap_setCell_row {W : World} {g j : Nat} {cur : Array Value} {t : TypeId} (h : W.heap[g]? = some (.cells cur t (0, 0))) (v : Value) : (W.setCell ⟨g, j, none⟩ v).heap[g]? = some (.cells (cur.setIfInBounds j v) t (0, 0)) := by
  have hlt : g < W.heap.size := (Array.getElem?_eq_some_iff.1 h).1
  simp [World.setCell, Array.getElem?_modify, h]
theorem RowAt.set {W : World} {g : Nat} {R : List Int} (h : RowAt W g R) (j : Nat) (v : Int) : RowAt (W.setCell ⟨g, j, none⟩ (.int .i64 v)) g (R.set j v) := by
  obtain ⟨cur, h1, h2⟩ := h
  refine ⟨_, heap_setCell_row h1 _, fun i u hi => ?_⟩
  rw [List.getElem?_set] at hi
  rw [Array.getElem?_setIfInBounds]
  by_cases hij : j = i
  · subst hij
    rw [if_pos rfl] at hi
    split at hi
    · rename_i hlt
      injection hi with hi
      subst hi
      have := h2 j R[j] (List.getElem?_eq_getElem hlt)
      have hc := (Array.getElem?_eq_some_iff.1 this).1
      rw [if_pos rfl, if_pos hc]
    · cases hi
  · rw [if_neg hij] at hi
    rw [if_neg hij]
    exact h2 i u hi

/-! ### the least ends, by rounds from the last one -/
def stepR (l : List Att) (R : List Int) (x : Nat × Int) : List Int := R.set x.1 (min (R.getD (x.1 + 1) 0) (attN l x.2).en)
def startR (n : Nat) : List Int := List.replicate n 0 ++ [9223372036854775807]
def foldR (l : List Att) {zs : List Int} (pre : List (El zs)) : List Int := pre.foldl (fun R x => stepR l R x.1) (startR zs.length)
theorem foldR_snoc (l : List Att) {zs : List Int} (pre : List (El zs)) (x : El zs) : foldR l (pre ++ [x]) = stepR l (foldR l pre) x.1 := by
  unfold foldR; rw [List.foldl_append]; rfl
theorem foldR_length (l : List Att) {zs : List Int} : ∀ (pre : List (El zs)), (foldR l pre).length = zs.length + 1 := fun pre => by
  unfold foldR
  suffices h : ∀ (pre : List (El zs)) (R : List Int), (pre.foldl (fun R x => stepR l R x.1) R).length = R.length by
    rw [h]; simp [startR]
  intro pre
  induction pre with
  | nil => intro R; rfl
  | cons x pre ih => intro R; rw [List.foldl_cons, ih]; simp [stepR]
theorem foldR_least (l : List Att) (zs : List Int) : ∀ (k m : Nat), k + m = zs.length → ∀ j, m ≤ j → j ≤ zs.length → (foldR l (revA zs k))[j]? = some (leastV l (zs.drop j))
  | 0, m, hkm, j, h1, h2 => by
    obtain rfl : j = zs.length := by omega
    rw [List.drop_length]
    simp [foldR, revA, startR, leastV]
  | k + 1, m, hkm, j, h1, h2 => by
    have hm : m < zs.length := by omega
    have ih := foldR_least l zs k (m + 1) (by omega)
    rw [revA_succ zs (k := k) (m := m) (by omega) hm, foldR_snoc]
    unfold stepR
    dsimp only
    rw [List.getElem?_set]
    by_cases hj : m = j
    · subst hj
      rw [if_pos rfl, if_pos (by rw [foldR_length]; omega)]
      rw [List.getD_eq_getElem?_getD, ih (m + 1) (Nat.le_refl _) (by omega), List.drop_eq_getElem_cons hm]
      rfl
    · rw [if_neg hj]
      exact ih j (by omega) h2
end Go.Proofs.YtjaegddnikkibaaGreatDoor
