/-
  slices.SortFunc at serial.Words' cells.
-/
import Derived.Test.YtjaegddnikkibaaGreatDoorShelfC
import Derived.Test.YtjaegddnikkibaaGreatDoorWords
import Derived.Test.YtjaegddnikkibaaGreatDoorRowKit
import Derived.Shelf.SlSortCmp.NoneTotal
set_option linter.unusedVariables false
set_option linter.unusedSimpArgs false
namespace Go.Proofs.YtjaegddnikkibaaGreatDoor
open Go.RowKit Go.Sort Go.Maps Go.Shelf Go.Lib

def cmpC (x y : Int × Int) : Int := cmpV x.1 y.1
theorem ltC_cells (x y : Int × Int) : ltOf cmpC x y = decide (x.1 < y.1) := by
  unfold ltOf cmpC
  rcases cmpV_cases x.1 y.1 with ⟨h, e⟩ | ⟨h, e⟩ | ⟨h, e⟩ <;> rw [e]
  · simp [h]
  · simp; omega
  · simp; omega
theorem swoC : SWO (ltOf cmpC) where
  irrefl x := by rw [ltC_cells]; simp
  trans x y z h1 h2 := by rw [ltC_cells] at *; simp at *; omega
  ntrans x y z h1 h2 := by rw [ltC_cells] at *; simp at *; omega

set_option maxHeartbeats 1000000 in
theorem words1_any (x y : Int × Int) (W : World) : Calls Tryz.prog 33 #[.agg #[.int .i64 x.1, .int .i64 x.2], .agg #[.int .i64 y.1, .int .i64 y.2]] W fun e w' => e = .returned (.int .i64 (cmpC x y)) ∧ ∃ q os', w' = grow (W.drewN q) os' := by
  have hcon := fun W' => compare_any x.1 y.1 W'
  unfold cmpC
  generalize cmpV x.1 y.1 = r at hcon ⊢
  go_enter Tryz.func33, Tryz.ntmps33
  go_wp2_with (go_at_call 28; refine (hcon _).mono ?_; rintro e w' ⟨rfl, rfl⟩)
  go_ret
  exact ⟨rfl, 0, _, by rw [alloc_eq_grow, alloc_eq_grow, grow_grow]; rfl⟩
theorem cmpLaysC (blk off size : Nat) (w : World) : CmpLays Tryz.prog 33 #[] cellC 2 cmpC blk off size w :=
  fun _ _ _ _ x y => words1_any x y _
theorem isAggC : ∀ w, (isAgg 91).run Tryz.prog w = .ok true w := fun w => by kernel_rfl
theorem sizeOfC : ∀ w, (Go.sizeOf 91).run Tryz.prog w = .ok 2 w := fun w => by kernel_rfl

theorem holds_cells {w : World} {base g cap : Nat} {cs : List (Int × Int)} (h : w.ownsRow base 91 2 (.slice (some ⟨g, 0, none⟩) cs.length cap) cs.length (cs.flatMap cellC)) : HoldsK cellC 2 w g 0 cs.toArray := by
  intro t ht
  rw [size_flatK, List.size_toArray] at ht
  have hk : t / 2 < cs.length := by omega
  have hc : t % 2 < 2 := Nat.mod_lt _ (by decide)
  have key := h.cellAt t ht
  have fl := flat_at cellC 2 (fun _ => rfl) cs (t / 2) (t % 2) cs[t / 2] (List.getElem?_eq_getElem hk) hc
  rw [show t / 2 * 2 + t % 2 = t by omega] at fl
  rw [fl] at key
  have e1 : (flatK cellC 2 cs.toArray)[t]! = (cellC cs[t / 2])[t % 2]! := by
    rw [get_flatK _ _ _ _ (by rw [List.size_toArray]; exact ht)]
    congr 2
    rw [getElem!_pos cs.toArray (t / 2) (by rw [List.size_toArray]; exact hk)]
    rfl
  refine ⟨?_, h.frozenAt _⟩
  rw [Nat.zero_add, key, e1]
  have : t % 2 < (cellC cs[t / 2]).length := hc
  rw [List.getElem?_eq_getElem this]
  simp only [id]
  rw [getElem!_pos (cellC cs[t / 2]) (t % 2) this]
theorem cells_holds {w : World} {g : Nat} {d : Array (Int × Int)} (hg : g < w.heap.size) (h : HoldsK cellC 2 w g 0 d) : CellsAt w (some ⟨g, 0, none⟩) d.toList := fun _ =>
  ⟨g, 0, rfl, hg, fun k x hx => by
    have hk : k < d.size := by have := (List.getElem?_eq_some_iff.1 hx).1; simpa using this
    have e : d[k]! = x := by
      rw [getElem!_pos d k hk]
      have := (List.getElem?_eq_some_iff.1 hx).2
      simpa using this
    have h0 := (h.cell hk (show 0 < 2 by decide)).1
    have h1 := (h.cell hk (show 1 < 2 by decide)).1
    rw [e] at h0 h1
    exact ⟨h0, h1⟩⟩
theorem mapF_sort {w : World} {g n : Nat} {d : Array (Int × Int)} {os : Array Obj} : MapF g w (sortWorldK cellC 2 w g 0 n d os) := by
  have e : (sortWorldK cellC 2 w g 0 n d os) = grow (mapBlock (Sort.ahead w n) g (putCells id 0 (flatK cellC 2 d))) os := rfl
  rw [e]
  refine ⟨rfl, rfl, rfl, ?_, fun k hk hkg => ?_⟩
  · rw [size_grow]
    show w.heap.size ≤ (w.heap.modify g _).size + _
    rw [Array.size_modify]; omega
  · show ((w.heap.modify g _) ++ os)[k]? = _
    rw [Array.getElem?_append_left (by rw [Array.size_modify]; exact hk), Array.getElem?_modify, if_neg (fun e => hkg e.symm)]
theorem own_sort {w : World} {base g cap n : Nat} {cs : List (Int × Int)} {d : Array (Int × Int)} {os : Array Obj} (h : w.ownsRow base 91 2 (.slice (some ⟨g, 0, none⟩) cs.length cap) cs.length (cs.flatMap cellC)) (hg : g < w.heap.size) (hsz : d.size = cs.length)
    (hc : CellsAt (sortWorldK cellC 2 w g 0 n d os) (some ⟨g, 0, none⟩) d.toList) : (sortWorldK cellC 2 w g 0 n d os).ownsRow base 91 2 (.slice (some ⟨g, 0, none⟩) cs.length cap) cs.length (d.toList.flatMap cellC) := by
  obtain ⟨hl, h2⟩ := h
  rcases h2 with ⟨h', _⟩ | ⟨g', cap', cur, h', hb, hgo, hnc, hcm, hcs, htake⟩
  · simp at h'
  · simp only [Value.slice.injEq, Option.some.injEq, Addr.mk.injEq, and_true, true_and] at h'
    obtain ⟨rfl, rfl⟩ := h'
    obtain ⟨cur', h1, hs1⟩ : ∃ cur', (sortWorldK cellC 2 w g 0 n d os).heap[g]? = some (.cells cur' 91 (0, 0)) ∧ cur'.size = cur.size := by
      have e : (sortWorldK cellC 2 w g 0 n d os) = grow (mapBlock (Sort.ahead w n) g (putCells id 0 (flatK cellC 2 d))) os := rfl
      rw [e]
      refine ⟨putCells id 0 (flatK cellC 2 d) cur, ?_, by unfold putCells; simp⟩
      show ((w.heap.modify g _) ++ os)[g]? = _
      rw [Array.getElem?_append_left (by rw [Array.size_modify]; exact hg), Array.getElem?_modify, if_pos rfl, hgo]
      rfl
    have hfl : ∀ l : List (Int × Int), (l.flatMap cellC).length = l.length * 2 := fun l => by
      induction l with
      | nil => rfl
      | cons t l ih => rw [List.flatMap_cons, List.length_append, ih]; simp [cellC]; omega
    refine ⟨by rw [hfl]; simp [hsz], .inr ⟨g, cap, cur', rfl, hb, h1, hnc, hcm, by omega, ?_⟩⟩
    apply List.ext_getElem?
    intro j
    rw [List.getElem?_take]
    by_cases hj : j < cs.length * 2
    · rw [if_pos hj]
      have hk : j / 2 < d.toList.length := by simp; omega
      have hx := List.getElem?_eq_getElem hk
      obtain ⟨a0, a1⟩ := hc.at hx
      have fl := flat_at cellC 2 (fun _ => rfl) d.toList (j / 2) (j % 2) _ hx (Nat.mod_lt _ (by decide))
      rw [show j / 2 * 2 + j % 2 = j by omega] at fl
      rw [fl, Array.getElem?_toList, ← cell_of_row _ g j cur' 91 (0, 0) h1]
      rcases (by omega : j % 2 = 0 ∨ j % 2 = 1) with h4 | h4
      · rw [h4, show (⟨g, j, none⟩ : Addr) = ⟨g, 0 + j / 2 * 2, none⟩ by rw [Addr.mk.injEq]; exact ⟨rfl, by omega, rfl⟩, a0]; rfl
      · rw [h4, show (⟨g, j, none⟩ : Addr) = ⟨g, 0 + j / 2 * 2 + 1, none⟩ by rw [Addr.mk.injEq]; exact ⟨rfl, by omega, rfl⟩, a1]; rfl
    · rw [if_neg hj, List.getElem?_eq_none (by rw [hfl]; simp [hsz]; omega)]
theorem sortsCells : SortsCells := by
  refine ⟨fun w => ?_, fun base g cap cs w h hnd hlen => ?_⟩
  · refine (AnyF.slices_SortFunc_none Tryz.sortCells none 0 _ w).mono ?_
    rintro e w' ⟨rfl, rfl⟩
    exact ⟨rfl, Below.refl _ _⟩
  · have hH := holds_cells h
    have hg : g < w.heap.size := by have := (h.lt g rfl).2; exact this
    have eg : ∀ args w, (callFunc 33 args).run Tryz.prog w = .ok (.enter 33 args) w := enters_of Tryz.func33 (by kernel_rfl) rfl
    have hcon := AnyQ.slices_SortFunc Tryz.sortCells 2 isAggC sizeOfC cellC (fun _ => rfl) (fun x v hv => by simp [cellC] at hv; rcases hv with rfl | rfl <;> rfl) cmpC swoC 33 #[] g 0 cap cs.toArray w eg (cmpLaysC g 0 _ w) hH hg (by rw [List.size_toArray]; omega)
    rw [List.size_toArray] at hcon
    refine hcon.mono ?_
    rintro e w' ⟨rfl, d', n, os, hp, hs, rfl⟩
    have hperm : d'.toList.Perm cs := by
      have := hp.2.2
      rw [extract_all (by simpa using hp.1), extract_all (by simp)] at this
      simpa using this
    have hsz : d'.size = cs.length := by have := hp.1; simpa using this
    refine ⟨rfl, d'.toList, by simpa using hsz, fun p => hperm.mem_iff, ?_, ?_, mapF_sort, ?_⟩
    · have hnd2 : (d'.toList.map (·.1)).Nodup := (hperm.map _).nodup_iff.2 hnd
      rw [List.pairwise_iff_getElem]
      intro i j hi hj hij
      have hi' : i < d'.size := by simpa using hi
      have hj' : j < d'.size := by simpa using hj
      have h1 := hs i j (Nat.zero_le _) hij (by omega)
      rw [ltC_cells, getElem!_pos d' i hi', getElem!_pos d' j hj'] at h1
      have h2 := List.pairwise_iff_getElem.1 hnd2 i j (by simpa using hi) (by simpa using hj) hij
      simp only [List.getElem_map, Array.getElem_toList, ne_eq] at h2
      simp only [Array.getElem_toList]
      simp only [decide_eq_false_iff_not] at h1
      omega
    · exact cells_holds (lt_sortWorldK cellC 2 w g 0 n d' os hg) (holdsK_sortWorldK cellC 2 w g 0 n cs.toArray d' os hg hH (by simpa using hsz))
    · exact own_sort h hg hsz (cells_holds (lt_sortWorldK cellC 2 w g 0 n d' os hg) (holdsK_sortWorldK cellC 2 w g 0 n cs.toArray d' os hg hH (by simpa using hsz)))
end Go.Proofs.YtjaegddnikkibaaGreatDoor
