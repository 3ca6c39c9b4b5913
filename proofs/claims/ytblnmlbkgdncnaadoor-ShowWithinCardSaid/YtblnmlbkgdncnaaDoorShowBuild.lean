/-
  A strings.Builder, by itself or as a struct's only field: what is written on it, and what stays. (Proofs turned from those of the library's contracts for a strings.Builder by itself.)
-/
import Derived.Test.YtblnmlbkgdncnaaDoorWordGlobs
import Derived.Test.YtblnmlbkgdncnaaDoorKept
import Derived.Lib.Strings
import Derived.Lib.Slices
import Derived.Lib.Walk
import Derived.Lib.Builder
import Derived.Lib.AppendStr
import Derived.Lib.UnsafeStr
import Derived.WalkKit
import Derived.Laws.Externs
set_option linter.unusedVariables false
set_option linter.unusedSimpArgs false
namespace Go.Proofs.YtblnmlbkgdncnaaDoor
open Go.RowKit

theorem sizeBuilder : (Tryd.prog.info? 52).map (·.size) = some 2 := by kernel_rfl
theorem liesBuilder : liesAt Tryd.prog Tryd.prog.depth 54 (2 / Tryd.prog.cellsOf 54) 0 52 1 = true := by kernel_rfl
theorem infoByte : (Tryd.prog.info? 5).map (fun i => (i.zero, i.size, i.bytes)) = some (some (.int .u8 0), 1, 1) := by kernel_rfl
theorem cellsByte : Tryd.prog.cellsOf 5 = 1 := by kernel_rfl

set_option maxHeartbeats 1000000 in
set_option maxRecDepth 100000 in
theorem check_used (b : Nat) (w : World) (h0 : w.cell? ⟨b, 0, none⟩ = some (.pointer (some ⟨b, 0, none⟩))) :
    Calls Tryd.prog 46 #[.pointer (some ⟨b, 0, none⟩)] w fun e w' => e = .returned (.tuple #[]) ∧ w' = w := by
  obtain ⟨j, hj, _⟩ := Option.map_eq_some_iff.1 sizeBuilder
  go_enter Tryd.func46, Tryd.ntmps46
  go_wp2
  rw [Lib.run_neq_ptr_same w _ Tryd.underlying49 hj]
  go_wp2
  go_end0
  exact ⟨rfl, rfl⟩

set_option maxHeartbeats 1000000 in
set_option maxRecDepth 100000 in
theorem check_fresh (b : Nat) (w : World) (h0 : w.cell? ⟨b, 0, none⟩ = some (.pointer none)) (hsh : w.shape? b = some (54, 2)) (hfz : w.frozen? ⟨b, 0, none⟩ = false) :
    Calls Tryd.prog 46 #[.pointer (some ⟨b, 0, none⟩)] w fun e w' => e = .returned (.tuple #[]) ∧ w' = w.setCell ⟨b, 0, none⟩ (.pointer (some ⟨b, 0, none⟩)) := by
  obtain ⟨j, hj, hjs⟩ := Option.map_eq_some_iff.1 sizeBuilder
  go_enter Tryd.func46, Tryd.ntmps46
  go_wp2
  rw [Lib.run_to_unsafe w ⟨b, 0, none⟩ Tryd.underlying49 Tryd.underlying114 hj (by rw [hjs]; decide) hsh (Nat.zero_lt_succ 1)]
  simp only [Result.andThen]
  rw [Oper.upon_value]
  go_wp2
  rw [run_callFunc_extern Tryd.func62 (by kernel_rfl) (by kernel_rfl) (by kernel_rfl) (e := Extern.AbiNoEscape.same) (by kernel_rfl)]
  rw [Lib.run_noEscape]
  simp only [Result.andThen]
  rw [Oper.upon_value]
  go_wp2
  rw [Lib.run_from_unsafe w ⟨b, 0, none⟩ Tryd.underlying114 Tryd.underlying49 hj hsh liesBuilder]
  simp only [Result.andThen]
  rw [Oper.upon_value]
  go_wp2
  go_end0
  exact ⟨rfl, rfl⟩

/-- a writer of this call's own (block b, from B on) that holds so many bytes -/
abbrev Writes (B b : Nat) (l : List UInt8) (w : World) : Prop := Lib.IsBuilder 54 5 B b (Lib.byteCells l) w

set_option maxHeartbeats 1000000 in
set_option maxRecDepth 100000 in
theorem wlen_any (B b : Nat) (l : List UInt8) (w : World) (h : Writes B b l w) :
    Calls Tryd.prog 45 #[.pointer (some ⟨b, 0, none⟩)] w fun e w' => e = .returned (.int .i64 l.length) ∧ w' = w := by
  obtain ⟨p, hB, v, hbk, hown, hne⟩ : ∃ p, Lib.BuilderAt 54 5 B b p (Lib.byteCells l) w := by
    rcases h with h | h
    · exact ⟨_, h⟩
    · exact ⟨_, h⟩
  rw [Lib.byteCells_length] at hown
  obtain ⟨ao, cap, rfl⟩ : ∃ ao cap, v = .slice ao l.length cap := by
    rcases hown.2 with ⟨hv, h0⟩ | ⟨g, cap, cur, hv, _⟩
    · exact ⟨none, 0, by rw [hv, h0]⟩
    · exact ⟨_, _, hv⟩
  have c1 : w.cell? ⟨b, 1, none⟩ = some (.slice ao l.length cap) := by rw [Lib.cell_of_heap hbk]; rfl
  go_enter Tryd.func45, Tryd.ntmps45
  go_wp2
  go_ret
  exact ⟨rfl, rfl⟩

/-- which block holds the bytes of a writer -/
def rowOf (w : World) (b : Nat) : Option Nat := (w.cell? ⟨b, 1, none⟩).bind Value.ownBlock
theorem rowOf_of {w : World} {b : Nat} {v : Value} (h : w.cell? ⟨b, 1, none⟩ = some v) : rowOf w b = v.ownBlock := by unfold rowOf; rw [h]; rfl
theorem Writes.lt {B b : Nat} {l : List UInt8} {w : World} (h : Writes B b l w) : b < w.heap.size := by rcases h with h | h <;> exact h.lt
theorem Writes.le {B b : Nat} {l : List UInt8} {w : World} (h : Writes B b l w) : B ≤ b := by rcases h with h | h <;> exact h.1
theorem Writes.fresh (w : World) : Writes w.heap.size w.heap.size [] (w.alloc (.cells #[.pointer none, .slice none 0 0] 54 (0, 0))) :=
  .inl ⟨Nat.le_refl _, .slice none 0 0, heap_alloc_new w _, ⟨rfl, .inl ⟨rfl, rfl⟩⟩, by simp [Value.ownBlock]⟩
/-- a writer whose own blocks are kept is one still -/
theorem Writes.keep {B b : Nat} {l : List UInt8} {w w' : World} (h : Writes B b l w) (hb : w'.heap[b]? = w.heap[b]?) (hr : ∀ k, rowOf w b = some k → w'.heap[k]? = w.heap[k]?) : Writes B b l w' := by
  have key : ∀ p, Lib.BuilderAt 54 5 B b p (Lib.byteCells l) w → Lib.BuilderAt 54 5 B b p (Lib.byteCells l) w' := fun p h => by
    obtain ⟨hB, v, hbk, hown, hne⟩ := h
    refine ⟨hB, v, hb.trans hbk, ⟨hown.1, ?_⟩, hne⟩
    have hc : w.cell? ⟨b, 1, none⟩ = some v := by rw [Lib.cell_of_heap hbk]; rfl
    rcases hown.2 with h0 | ⟨g, cap, cur, hv, hg, hgb, rest⟩
    · exact .inl h0
    · refine .inr ⟨g, cap, cur, hv, hg, (hr g ?_).trans hgb, rest⟩
      rw [rowOf_of hc, hv]; rfl
  rcases h with h | h
  · exact .inl (key _ h)
  · exact .inr (key _ h)
theorem Writes.row_lt {B b : Nat} {l : List UInt8} {w : World} (h : Writes B b l w) {k : Nat} (hk : rowOf w b = some k) : B ≤ k ∧ k < w.heap.size ∧ k ≠ b ∧ ∃ cs fz, w.heap[k]? = some (.cells cs 5 fz) ∧ l.length ≤ cs.size := by
  have key : ∀ p, Lib.BuilderAt 54 5 B b p (Lib.byteCells l) w → B ≤ k ∧ k < w.heap.size ∧ k ≠ b ∧ ∃ cs fz, w.heap[k]? = some (.cells cs 5 fz) ∧ l.length ≤ cs.size := fun p h => by
    obtain ⟨hB, v, hbk, hown, hne⟩ := h
    have hc : w.cell? ⟨b, 1, none⟩ = some v := by rw [Lib.cell_of_heap hbk]; rfl
    rw [rowOf_of hc] at hk
    have h1 := hown.lt k hk
    refine ⟨h1.1, h1.2, fun e => hne (by rw [hk, e]), ?_⟩
    rcases hown.2 with ⟨h0, _⟩ | ⟨g, cap, cur, hv, hg, hgb, hn, hm, hs, ht⟩
    · rw [h0] at hk; cases hk
    · rw [hv] at hk
      injection hk with hk
      subst hk
      refine ⟨cur, (0, 0), hgb, ?_⟩
      rw [Lib.byteCells_length] at hn
      omega
  rcases h with h | h <;> exact key _ h
/-- a block that holds something else, or fewer cells than there are bytes, is not the writer's -/
theorem Writes.row_ne {B b : Nat} {l : List UInt8} {w : World} (h : Writes B b l w) {k : Nat} (hk : (∀ cs fz, w.heap[k]? ≠ some (.cells cs 5 fz)) ∨ (∃ cs t fz, w.heap[k]? = some (.cells cs t fz) ∧ cs.size < l.length) ∨ k < B ∨ w.heap.size ≤ k) : rowOf w b ≠ some k := fun e => by
  obtain ⟨h1, h2, -, cs, fz, h3, h4⟩ := h.row_lt e
  rcases hk with hk | ⟨cs', t, fz', h5, h6⟩ | hk | hk
  · exact hk cs fz h3
  · rw [h3] at h5; injection h5 with h5; injection h5 with h5; subst h5; omega
  · omega
  · omega
theorem Writes.drewN {B b : Nat} {l : List UInt8} {w : World} (h : Writes B b l w) (n : Nat) : Writes B b l (w.drewN n) := h
theorem Writes.drew {B b : Nat} {l : List UInt8} {w : World} (h : Writes B b l w) : Writes B b l w.drew := h
/-- what a write may turn -/
abbrev OwnB (w : World) (b : Nat) (k : Nat) : Prop := k = b ∨ rowOf w b = some k

theorem check_any (B b : Nat) (bs : List Value) (w : World) (h : Lib.IsBuilder 54 5 B b bs w) :
    Calls Tryd.prog 46 #[.pointer (some ⟨b, 0, none⟩)] w fun e w' => e = .returned (.tuple #[]) ∧ (Lib.BuilderAt 54 5 B b (.pointer (some ⟨b, 0, none⟩)) bs w' ∧ Below B w w' ∧ Kept (OwnB w b) w w' ∧ rowOf w' b = rowOf w b) := by
  rcases h with h | h
  · refine (check_fresh b w h.cell0 h.shape h.frozen0).mono ?_
    rintro e w' ⟨rfl, rfl⟩
    refine ⟨rfl, h.used _, (Below.refl B w).setCell (p := ⟨b, 0, none⟩) h.1 _, (Kept.refl _ w).setCell (p := ⟨b, 0, none⟩) (.inl (.inl rfl)) _, ?_⟩
    exact congrArg (fun o : Option Value => o.bind Value.ownBlock) (World.cell?_setCell_other (h := fun e => by injection e with _ e _; cases e) ..)
  · refine (check_used b w h.cell0).mono ?_
    rintro e w' ⟨rfl, rfl⟩
    exact ⟨rfl, h, Below.refl B _, Kept.refl _ _, rfl⟩

set_option maxHeartbeats 2000000 in
set_option maxRecDepth 100000 in
theorem wstr_any (B b : Nat) (l : List UInt8) (s : List UInt8) (w : World) (h : Writes B b l w) (hlen : l.length + s.length ≤ 140737488355328) (hBw : B ≤ w.heap.size) :
    Calls Tryd.prog 25 #[.pointer (some ⟨b, 0, none⟩), .string ⟨s.toArray⟩] w fun e w' => e = .returned (.tuple #[.int .i64 s.length, .nilIface]) ∧ Writes B b (l ++ s) w' ∧ Below B w w' ∧ Kept (OwnB w b) w w' := by
  obtain ⟨i0, hi, hz0, hz1, hz2⟩ := info_parts infoByte
  go_enter Tryd.func25, Tryd.ntmps25
  go_wp2_with (go_at_call 46; refine (check_any B b _ _ h).mono ?_)
  rintro e w1 ⟨rfl, h1, hb1, hk1, hr1⟩
  obtain ⟨hB, v, hbk, hown, hne⟩ := h1
  have c0 : w1.cell? ⟨b, 0, none⟩ = some (.pointer (some ⟨b, 0, none⟩)) := by rw [Lib.cell_of_heap hbk]; rfl
  have c1 : w1.cell? ⟨b, 1, none⟩ = some v := by rw [Lib.cell_of_heap hbk]; rfl
  have hss : (⟨s.toArray⟩ : ByteArray).size = s.length := by simp [ByteArray.size]
  go_wp2_with (at_builtin; refine Lib.wpList_append_own_string _ rfl _ _ 50 9 rfl B 5 i0 Tryd.underlying50 Tryd.underlying9 hi hz0 hz1 hz2 _ _ _ rfl hown ⟨s.toArray⟩ rfl ?c3 ?c4 ?c5 ?_)
  case c3 => rw [hss, Lib.byteCells_length]; unfold maxLen; omega
  case c4 => rw [hss, Lib.byteCells_length]; omega
  case c5 => have := hb1.size; omega
  intro v' w2 hown' hgrow _
  have hlt : b < w1.heap.size := by
    rcases Nat.lt_or_ge b w1.heap.size with h' | h'
    · exact h'
    · simp [Array.getElem?_eq_none h'] at hbk
  have hb2 : w2.heap[b]? = some (.cells #[.pointer (some ⟨b, 0, none⟩), v] 54 (0, 0)) := by
    rw [hgrow.block b hlt (fun e => hne e.symm)]
    exact hbk
  have d0 : w2.cell? ⟨b, 0, none⟩ = some (.pointer (some ⟨b, 0, none⟩)) := by rw [Lib.cell_of_heap hb2]; rfl
  have d1 : w2.cell? ⟨b, 1, none⟩ = some v := by rw [Lib.cell_of_heap hb2]; rfl
  have f1 : w2.frozen? ⟨b, 1, none⟩ = false := Lib.frozen_of_heap hb2 1
  obtain ⟨ao, n', cap, rfl⟩ : ∃ ao n' cap, v' = .slice ao n' cap := by
    rcases hown'.2 with ⟨hv, _⟩ | ⟨g, cap, cur, hv, _⟩
    · exact ⟨_, _, _, hv⟩
    · exact ⟨_, _, _, hv⟩
  have hcat : Lib.byteCells l ++ Lib.strCells ⟨s.toArray⟩ = Lib.byteCells (l ++ s) := by
    rw [Lib.strCells_eq, ← Lib.byteCells_append]
  have hout : Lib.BuilderAt 54 5 B b (.pointer (some ⟨b, 0, none⟩)) (Lib.byteCells (l ++ s)) (w2.setCell ⟨b, 1, none⟩ (.slice ao n' cap)) := by
    rw [← hcat]
    exact Lib.BuilderAt.put (T := 54) (e := 5) hB hb2 (bs' := Lib.byteCells l ++ Lib.strCells ⟨s.toArray⟩) (by simpa [Lib.strCells_length, hss] using hown') (by decide)
  have hbel : Below B w (w2.setCell ⟨b, 1, none⟩ (.slice ao n' cap)) :=
    (hb1.grown hgrow (by have := hb1.size; omega) (fun k hk => (hown.lt k hk).1)).setCell (p := ⟨b, 1, none⟩) hB _
  have hkept : Kept (OwnB w b) w (w2.setCell ⟨b, 1, none⟩ (.slice ao n' cap)) := by
    have e1 : rowOf w b = v.ownBlock := by rw [← hr1, rowOf_of c1]
    refine Kept.setCell (hk1.trans ⟨hgrow.os, hgrow.tape, hgrow.output, hgrow.size, fun k hk hs => hgrow.block k hk fun e => hs (.inr (by rw [e1]; exact e.symm))⟩) (p := ⟨b, 1, none⟩) (.inl (.inl rfl)) _
  have HO := Lib.hid (And.intro (Or.inr hout : Writes B b (l ++ s) (w2.setCell ⟨b, 1, none⟩ (.slice ao n' cap))) (And.intro hbel hkept))
  clear hout hbel hcat hown' hgrow hown hb1 hbk hk1 hr1 hkept
  go_wp2
  go_ret2
  exact ⟨rfl, HO.out⟩

set_option maxHeartbeats 1000000 in
set_option maxRecDepth 100000 in
theorem wtext_any (B b : Nat) (l : List UInt8) (w : World) (h : Writes B b l w) (h0 : l ≠ []) :
    Calls Tryd.prog 16 #[.pointer (some ⟨b, 0, none⟩)] w fun e w' => e = .returned (.string ⟨l.toArray⟩) ∧ Below B w w' := by
  obtain ⟨p, hB, v, hbk, hown, hne⟩ : ∃ p, Lib.BuilderAt 54 5 B b p (Lib.byteCells l) w := by
    rcases h with h | h
    · exact ⟨_, h⟩
    · exact ⟨_, h⟩
  have hl0 : l.length ≠ 0 := by simpa using h0
  rw [Lib.byteCells_length] at hown
  obtain ⟨g, cap, cur, rfl, hbg, hg, hnc, hcm, hcs, htake⟩ : ∃ g cap cur, v = .slice (some ⟨g, 0, none⟩) l.length cap ∧ B ≤ g ∧ w.heap[g]? = some (.cells cur 5 (0, 0)) ∧ l.length ≤ cap ∧ cap ≤ maxLen ∧ cur.size = cap * 1 ∧ cur.toList.take (l.length * 1) = Lib.byteCells l := by
    rcases hown.2 with ⟨_, hz⟩ | ⟨g, cap, cur, hv, r⟩
    · exact absurd hz hl0
    · exact ⟨g, cap, cur, hv, r⟩
  have c1 : w.drew.cell? ⟨b, 1, none⟩ = some (.slice (some ⟨g, 0, none⟩) l.length cap) := by
    have : w.drew.heap[b]? = some (.cells #[p, .slice (some ⟨g, 0, none⟩) l.length cap] 54 (0, 0)) := hbk
    rw [Lib.cell_of_heap this]; rfl
  have hSD : (Builtin.unsafeSliceData_ #[50] 85 #[.slice (some ⟨g, 0, none⟩) l.length cap]).run Tryd.prog w.drew = .ok (.pointer (some ⟨g, 0, none⟩)) w.drew :=
    Lib.run_unsafeSliceData_row _ _ _ _ _ _ (by omega)
  have hUS : (Builtin.unsafeString_ #[85, 3] 9 #[.pointer (some ⟨g, 0, none⟩), .int .i64 l.length]).run Tryd.prog w.drew = .ok (.string ⟨l.toArray⟩) (w.drew.freeze ⟨g, 0, none⟩ l.length) := by
    refine Lib.run_unsafeString_row w.drew 85 3 9 5 Tryd.underlying85 cellsByte g cur.size (by have hg' : w.drew.heap[g]? = some (.cells cur 5 (0, 0)) := hg; simp [World.shape?, hg']) l h0 (by omega) (by unfold maxLen at hcm; omega) ?_
    intro j x hx
    have := hown.cells (g := g) rfl j (.int .u8 x.toNat) (by simp [Lib.byteCells, hx])
    exact this
  go_enter Tryd.func16, Tryd.ntmps16
  go_wp2
  go_region
  all_goals (go_wp2; go_ret; exact ⟨rfl, Lib.below_freeze (Below.drew (Below.refl B w)) (p := ⟨g, 0, none⟩) hbg _⟩)
end Go.Proofs.YtblnmlbkgdncnaaDoor
