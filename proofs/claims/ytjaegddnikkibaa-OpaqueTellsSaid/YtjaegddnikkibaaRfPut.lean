/-
  The reference's Heap.Put, walked.
-/
import Derived.Test.YtjaegddnikkibaaRfHeap
set_option linter.unusedVariables false
set_option linter.unusedSimpArgs false
namespace Go.Proofs.Ytjaegddnikkibaa
open Go.RowKit Go.Sort Go.Maps

structure HeapR (w : World) (h : Nat) (cs : List (Int × Int)) : Prop where
  ex : ∃ v, w.cell? ⟨h, 0, none⟩ = some v ∧ w.frozen? ⟨h, 0, none⟩ = false ∧ w.ownsRow (h + 1) 51 2 v cs.length (cs.flatMap cellC)
/-- all stays but block h and later blocks of cells -/
structure PutF (h : Nat) (w w' : World) : Prop where
  os : w'.os = w.os
  tape : w'.tape = w.tape
  output : w'.output = w.output
  size : w.heap.size ≤ w'.heap.size
  block : ∀ i, i < w.heap.size → i ≠ h → (i ≤ h ∨ ∀ c fr, w.heap[i]? ≠ some (.cells c 51 fr)) → w'.heap[i]? = w.heap[i]?
theorem cellsAt_own {w : World} {base : Nat} {v : Value} {cs : List (Int × Int)} (h : w.ownsRow base 51 2 v cs.length (cs.flatMap cellC)) : ∃ A c, v = .slice A cs.length c ∧ CellsAt w A cs := by
  rcases h.2 with ⟨rfl, hn⟩ | ⟨g, cap, cur, rfl, hg, hb, r⟩
  · have : cs = [] := List.eq_nil_of_length_eq_zero hn
    subst this
    exact ⟨none, 0, rfl, fun h => absurd rfl h⟩
  · refine ⟨some ⟨g, 0, none⟩, cap, rfl, fun _ => ⟨g, 0, rfl, (Array.getElem?_eq_some_iff.1 hb).1, fun k x hk => ?_⟩⟩
    have hlt : k < cs.length := (List.getElem?_eq_some_iff.1 hk).1
    have key : ∀ j, j < 2 → w.cell? ⟨g, 0 + k * 2 + j, none⟩ = (cellC x)[j]? := fun j hj => by
      rw [Nat.zero_add, h.cellAt (k * 2 + j) (by omega)]
      exact flat_at cellC 2 (fun _ => rfl) cs k j x hk hj
    exact ⟨key 0 (by decide), key 1 (by decide)⟩
theorem own_isCell {w : World} {base n : Nat} {v : Value} {xs : List Value} (h : w.ownsRow base 51 2 v n xs) {i : Nat} (hi : v.ownBlock = some i) : base ≤ i ∧ ∃ c fr, w.heap[i]? = some (.cells c 51 fr) := by
  rcases h.2 with ⟨rfl, hn⟩ | ⟨g, cap, cur, rfl, hg, hb, r⟩
  · cases hi
  · injection hi with hi
    subst hi
    exact ⟨hg, _, _, hb⟩
theorem putF_append {w w1 w3 : World} {h n : Nat} {v u : Value} {xs : List Value} {o : Obj} (hb : Below w.heap.size w w1) (own : w1.ownsRow (h + 1) 51 2 v n xs) (hg : (w1.alloc o).grownBy w3 v.ownBlock) : PutF h w (w3.setCell ⟨h, 0, none⟩ u) := by
  refine ⟨hg.os.trans hb.os, hg.tape.trans hb.tape, hg.output.trans hb.output, ?_, fun i hi hih hc => ?_⟩
  · have := hb.size
    have h2 := hg.size
    simp at h2 ⊢; omega
  · have hi1 := Nat.lt_of_lt_of_le hi hb.size
    rw [heap_setCell_other _ _ i _ (by simpa using hih)]
    rw [hg.block i (by simp; omega) (fun e => by
      obtain ⟨h1, c, fr, h2⟩ := own_isCell own e.symm
      rcases hc with hc | hc
      · omega
      · exact hc c fr (by rw [← hb.block i hi]; exact h2))]
    rw [((Below.refl w1.heap.size w1).alloc (Nat.le_refl _) o).block i hi1, hb.block i hi]
theorem putF_set {w w1 : World} {h n g j cap : Nat} {u : Value} {xs : List Value} (hb : Below w.heap.size w w1) (own : w1.ownsRow (h + 1) 51 2 (.slice (some ⟨g, 0, none⟩) n cap) n xs) : PutF h w (w1.setCell ⟨g, j, none⟩ u) := by
  refine ⟨hb.os, hb.tape, hb.output, by simpa using hb.size, fun i hi hih hc => ?_⟩
  rw [heap_setCell_other _ _ i _ (fun e => by
    obtain ⟨h1, c, fr, h2⟩ := own_isCell own (i := g) rfl
    have e : i = g := by simpa using e
    subst e
    rcases hc with hc | hc
    · omega
    · exact hc c fr (by rw [← hb.block i hi]; exact h2))]
  exact hb.block i hi
theorem cells_set (v : Int) : ∀ (cs : List (Int × Int)) (j : Nat) (hj : j < cs.length), (cs.flatMap cellC).set (j * 2 + 1) (.int .i64 v) = (cs.set j (cs[j].1, v)).flatMap cellC
  | [], _, hj => by simp at hj
  | c :: r, 0, _ => rfl
  | c :: r, j + 1, hj => by
    have ih := cells_set v r j (by simpa using hj)
    show (Value.int .i64 c.1 :: Value.int .i64 c.2 :: r.flatMap cellC).set ((j + 1) * 2 + 1) _ = _
    rw [show (j + 1) * 2 + 1 = (j * 2 + 1) + 1 + 1 by omega, List.set_cons_succ, List.set_cons_succ, ih]
    rfl

set_option maxHeartbeats 2000000 in
set_option maxRecDepth 100000 in
theorem rfPut_any (h : Nat) (cs : List (Int × Int)) (x v : Int) (hn : cs.length ≤ 68157440) (w : World) (hH : HeapR w h cs) :
    Calls Try.prog 68 #[.pointer (some ⟨h, 0, none⟩), .int .i64 x, .int .i64 v] w fun e w' => e = .returned (.tuple #[]) ∧ HeapR w' h (putV x v cs) ∧ PutF h w w' := by
  obtain ⟨u, hu, hf, hown⟩ := hH.ex
  obtain ⟨A, cap, rfl, hc⟩ := cellsAt_own hown
  have HF := Lib.hid (rfFind_any h A cap cs x hn w hu hc)
  have hl := World.block_lt_of_cell? _ _ hu
  have HU := Lib.hid (fun W (hb : Below w.heap.size w W) => (hb.cell (p := ⟨h, 0, none⟩) hl).trans hu)
  have HZ := Lib.hid (fun W (hb : Below w.heap.size w W) => (hb.frozen (p := ⟨h, 0, none⟩) hl).trans hf)
  have HO := Lib.hid (fun W (hb : Below w.heap.size w W) => own_belowI hown hb)
  obtain ⟨i0, hi0, hz0, hz1, hz2⟩ := info_parts cellInfo
  rcases findV_cases x cs 0 with ⟨h1, -, h3⟩ | ⟨j, hj, h1, h2, -⟩
  · rw [h1] at HF
    have HP := Lib.hid (putV_none v h3)
    clear h1 h3 hu hf hown hc hH
    go_enter Try.func68, Try.ntmps68
    go_wp2_with fail
    refine HF.out.mono ?_
    rintro e w1 ⟨rfl, hb⟩
    have hE := Lib.hid hb
    have a0 := HU.out _ hb
    have own1 := Lib.hid (HO.out _ hb)
    have hz := Lib.hid (HZ.out _ hb)
    have hl1 : h < w1.heap.size := Nat.lt_of_lt_of_le hl hb.size
    clear hb HF
    go_wp2_with (at_builtin; refine wpList_append_own _ rfl _ _ 47 rfl (h + 1) 51 i0 _ 2 16 Try.underlying47 hi0 hz0 hz1 hz2 rfl (by decide) _ _ _ rfl (own1.out.alloc _) ⟨w1.heap.size, 0, none⟩ 1 1 [.int .i64 x, .int .i64 v] rfl rfl (World.news_of_block (cs := #[.int .i64 x, .int .i64 v]) (t := 51) (fr := (0, 0)) (heap_alloc_new w1 _)) (by simp [Value.oneCell']) (by unfold maxLen; omega) (by omega) (by simp; omega) ?_)
    intro v' w3 hown' hgrow hnil'
    rcases hown'.2 with ⟨-, h0⟩ | ⟨gg, cp, cur, rfl, hbase, hbk, r1⟩
    · exact absurd h0 (by omega)
    clear hbk r1 hbase
    have hPF := Lib.hid (fun u => putF_append (u := u) hE.out own1.out hgrow)
    have hbh : w3.heap[h]? = w1.heap[h]? := by
      rw [hgrow.block h (by simp; omega) (fun e => by have := (own_isCell own1.out e.symm).1; omega)]
      exact ((Below.refl w1.heap.size w1).alloc (Nat.le_refl _) _).block h hl1
    have b0 : w3.cell? ⟨h, 0, none⟩ = some (.slice A cs.length cap) := (World.cell?_of_block (w := w1) hbh).trans a0
    have bz : w3.frozen? ⟨h, 0, none⟩ = false := (World.frozen?_of_block (w := w1) hbh).trans hz.out
    have hown3 : Hid (∀ u, (w3.setCell ⟨h, 0, none⟩ u).ownsRow (h + 1) 51 2 (.slice (some ⟨gg, 0, none⟩) (cs.length + 1) cp) (putV x v cs).length ((putV x v cs).flatMap cellC)) := Lib.hid (fun u => by
      rw [HP.out, List.length_append, List.flatMap_append]
      exact ownsRow_setCell_below (a := ⟨h, 0, none⟩) hown' (Nat.lt_succ_self _) u)
    have hset : Hid ((w3.setCell ⟨h, 0, none⟩ (.slice (some ⟨gg, 0, none⟩) (cs.length + 1) cp)).cell? ⟨h, 0, none⟩ = some (.slice (some ⟨gg, 0, none⟩) (cs.length + 1) cp)) := Lib.hid (World.cell?_setCell_same _ _ _ b0)
    have hfz : Hid ((w3.setCell ⟨h, 0, none⟩ (.slice (some ⟨gg, 0, none⟩) (cs.length + 1) cp)).frozen? ⟨h, 0, none⟩ = false) := Lib.hid (by
      first | (rw [World.frozen?_setCell]; exact bz) | (simpa using bz))
    clear hown' hgrow hnil' hbh own1 hE
    go_wp2_with fail
    go_end0
    exact ⟨rfl, ⟨_, hset.out, hfz.out, hown3.out _⟩, hPF.out _⟩
  · rw [h1, Nat.zero_add] at HF
    have HP : Hid (putV x v cs = cs.set j (cs[j].1, v)) := Lib.hid (by rw [findV_put x v cs 0 j h1 hj, h2])
    have t1 : decide ((j : Int) < 0) = false := by simp
    have p1 : (j : Int) < (cs.length : Int) := by omega
    have p2 : (0 : Int) ≤ (j : Int) := Int.natCast_nonneg _
    clear h1 h2 hu hf hown hc hH
    go_enter Try.func68, Try.ntmps68
    go_wp2_with fail
    refine HF.out.mono ?_
    rintro e w1 ⟨rfl, hb⟩
    have hE := Lib.hid hb
    have a0 := HU.out _ hb
    have own1 := Lib.hid (HO.out _ hb)
    have hz := Lib.hid (HZ.out _ hb)
    clear hb HF
    rcases own1.out.2 with ⟨-, h0⟩ | ⟨g, cap', cur, hsl, hbase, hbk, r1⟩
    · omega
    injection hsl with hs1 _ hs2
    subst hs1; subst hs2
    have f1 : w1.frozen? ⟨g, j * 2 + 1, none⟩ = false := World.ownsRow.frozenAt own1.out _
    obtain ⟨A', c', he, hcA⟩ := cellsAt_own own1.out
    injection he with he1 _ _
    subst he1
    have g1 := (hcA.at (List.getElem?_eq_getElem hj)).2
    rw [Nat.zero_add] at g1
    have hPF := Lib.hid (fun u => putF_set (j := j * 2 + 1) (u := u) hE.out own1.out)
    have hO2 : Hid ((w1.setCell ⟨g, j * 2 + 1, none⟩ (.int .i64 v)).ownsRow (h + 1) 51 2 (.slice (some ⟨g, 0, none⟩) cs.length cap) (putV x v cs).length ((putV x v cs).flatMap cellC)) := Lib.hid (by
      have := (World.ownsRow.stored own1.out (j * 2 + 1) (.int .i64 v)).1
      rw [cells_set v cs j hj, ← HP.out] at this
      rw [show (putV x v cs).length = cs.length by rw [HP.out, List.length_set]]
      exact this)
    have hgh : g ≠ h := by omega
    have hset : Hid ((w1.setCell ⟨g, j * 2 + 1, none⟩ (.int .i64 v)).cell? ⟨h, 0, none⟩ = some (.slice (some ⟨g, 0, none⟩) cs.length cap)) := Lib.hid ((World.cell?_setCell_other _ _ _ _ (by simp [Ne.symm hgh])).trans a0)
    have hfz : Hid ((w1.setCell ⟨g, j * 2 + 1, none⟩ (.int .i64 v)).frozen? ⟨h, 0, none⟩ = false) := Lib.hid (by
      first | (rw [World.frozen?_setCell]; exact hz.out) | (simpa using hz.out))
    clear own1 hE hbk r1 hcA
    generalize cs[j].2 = old at *
    go_wp2_with fail
    go_end0
    exact ⟨rfl, ⟨_, hset.out, hfz.out, hO2.out⟩, hPF.out _⟩
end Go.Proofs.Ytjaegddnikkibaa
