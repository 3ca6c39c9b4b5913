/-
  The reference's Heap: find and Get, walked.
-/
import Derived.Test.YtjaegddnikkibaaGreatDoorRfSorted
import Derived.Test.YtjaegddnikkibaaGreatDoorWordsPlain
import Derived.Test.YtjaegddnikkibaaGreatDoorOwnKit
set_option linter.unusedVariables false
set_option linter.unusedSimpArgs false
namespace Go.Proofs.YtjaegddnikkibaaGreatDoor
open Go.RowKit Go.Sort Go.Maps

def findV (x : Int) : Nat → List (Int × Int) → Int
  | _, [] => -1
  | k, c :: r => if c.1 = x then (k : Int) else findV x (k + 1) r
def getV (cs : List (Int × Int)) (x : Int) : Int := match cs with
  | [] => 0
  | c :: r => if c.1 = x then c.2 else getV r x
theorem findV_step {x : Int} {cs : List (Int × Int)} {k : Nat} (h : k < cs.length) : findV x k (cs.drop k) = if cs[k].1 = x then (k : Int) else findV x (k + 1) (cs.drop (k + 1)) := by
  rw [List.drop_eq_getElem_cons h]; rfl
theorem findV_cases (x : Int) : ∀ (cs : List (Int × Int)) (k : Nat), (findV x k cs = -1 ∧ getV cs x = 0 ∧ ∀ v, (x, v) ∉ cs) ∨ ∃ j, ∃ hj : j < cs.length, findV x k cs = ((k + j : Nat) : Int) ∧ cs[j].1 = x ∧ getV cs x = cs[j].2
  | [], k => Or.inl ⟨rfl, rfl, fun v h => by simp at h⟩
  | c :: r, k => by
    unfold findV getV
    by_cases h : c.1 = x
    · rw [if_pos h, if_pos h]
      exact Or.inr ⟨0, by simp, by simp, h, rfl⟩
    · rw [if_neg h, if_neg h]
      rcases findV_cases x r (k + 1) with ⟨h1, h2, h3⟩ | ⟨j, hj, h1, h2, h3⟩
      · refine Or.inl ⟨h1, h2, fun v hv => ?_⟩
        rcases List.mem_cons.1 hv with e | hv
        · exact h (by rw [← e])
        · exact h3 v hv
      · exact Or.inr ⟨j + 1, by simpa using hj, by rw [h1]; congr 1; omega, by simpa using h2, by simpa using h3⟩

set_option maxHeartbeats 1000000 in
set_option maxRecDepth 100000 in
theorem rfFind_any (h : Nat) (A : Option Addr) (cap : Nat) (cs : List (Int × Int)) (x : Int) (hn : cs.length ≤ 68157440) (w : World) (hh : w.cell? ⟨h, 0, none⟩ = some (.slice A cs.length cap)) (hc : CellsAt w A cs) :
    Calls Tryz.prog 203 #[.pointer (some ⟨h, 0, none⟩), .int .i64 x] w fun e w' => e = .returned (.int .i64 (findV x 0 cs)) ∧ Below w.heap.size w w' := by
  have hl := World.block_lt_of_cell? _ _ hh
  have HH := Lib.hid (fun W (hb : Below w.heap.size w W) => (hb.cell (p := ⟨h, 0, none⟩) hl).trans hh)
  have HC := Lib.hid (fun W (hb : Below w.heap.size w W) => hc.keep hb)
  obtain ⟨R, hR⟩ : ∃ R, findV x 0 cs = R := ⟨_, rfl⟩
  rw [hR]
  have HR0 : Hid (R = findV x 0 (cs.drop 0)) := Lib.hid hR.symm
  clear hh hc hl hR
  go_enter Tryz.func203, Tryz.ntmps203
  go_wp2_with fail
  go_loopw [5] (fun i wr => ∃ k : Nat, i = .int .i64 k ∧ k ≤ cs.length ∧ Hid (R = findV x k (cs.drop k)) ∧ Hid (Below w.heap.size w wr)) (fun i _ => cs.length - (intOf i).toNat)
  case atStart => exact ⟨0, rfl, Nat.zero_le _, HR0, Lib.hid (Below.refl _ _)⟩
  case round =>
    clear HR0
    obtain ⟨k, rfl, hk, hV, hW⟩ := hrel
    have a0 := HH.out _ hW.out
    by_cases hlt : k < cs.length
    · obtain ⟨b, off, rfl, hbl, hcc⟩ := HC.out _ hW.out (by rintro rfl; simp at hlt)
      obtain ⟨e0, e1⟩ := hcc k _ (List.getElem?_eq_getElem hlt)
      have hst := Lib.hid (findV_step (x := x) hlt)
      have p1 : (k : Int) < (cs.length : Int) := by omega
      have p2 : (0 : Int) ≤ (k : Int) := Int.natCast_nonneg _
      have hE := Lib.hid (fun n => below_drewN hW.out n)
      clear hcc
      generalize cs[k] = cc at *
      obtain ⟨cx, cv⟩ := cc
      dsimp only at *
      by_cases hx : cx = x
      · have t1 : decide (cx = x) = true := by simpa using hx
        have t2 : (cx == x) = true := by simpa using hx
        have hF : Hid (R = (k : Int)) := Lib.hid (by rw [hV.out, hst.out, if_pos hx])
        clear hV hst hx
        go_wp2_with fail
        go_ret
        exact ⟨by rw [hF.out]; first | done | rfl, hW.out⟩
      · have t1 : decide (cx = x) = false := by simpa using hx
        have t2 : (cx == x) = false := by simpa using hx
        have hF : Hid (R = findV x (k + 1) (cs.drop (k + 1))) := Lib.hid (by rw [hV.out, hst.out, if_neg hx])
        clear hV hst hx
        go_wp2_with fail
        go_roundw
        case rel => exact ⟨k + 1, by go_num, by omega, hF, hW⟩
        case measure => simp [intOf]; omega
    · have hF : Hid (R = -1) := Lib.hid (by rw [hV.out, List.drop_eq_nil_of_le (by omega)]; rfl)
      clear hV
      go_wp2_with fail
      go_ret
      exact ⟨by rw [hF.out]; first | done | rfl, hW.out⟩

set_option maxHeartbeats 1000000 in
set_option maxRecDepth 100000 in
theorem rfGet_any (h : Nat) (A : Option Addr) (cap : Nat) (cs : List (Int × Int)) (x : Int) (hn : cs.length ≤ 68157440) (w : World) (hh : w.cell? ⟨h, 0, none⟩ = some (.slice A cs.length cap)) (hc : CellsAt w A cs) :
    Calls Tryz.prog 134 #[.pointer (some ⟨h, 0, none⟩), .int .i64 x] w fun e w' => e = .returned (.int .i64 (getV cs x)) ∧ Below w.heap.size w w' := by
  have hl := World.block_lt_of_cell? _ _ hh
  have HH := Lib.hid (fun W (hb : Below w.heap.size w W) => (hb.cell (p := ⟨h, 0, none⟩) hl).trans hh)
  have HC := Lib.hid (fun W (hb : Below w.heap.size w W) => hc.keep hb)
  have HF := Lib.hid (rfFind_any h A cap cs x hn w hh hc)
  clear hh hc hl
  rcases findV_cases x cs 0 with ⟨h1, h2, -⟩ | ⟨j, hj, h1, h2, h3⟩
  · rw [h2]
    rw [h1] at HF
    clear h1 h2
    go_enter Tryz.func134, Tryz.ntmps134
    go_wp2_with fail
    refine HF.out.mono ?_
    rintro e w1 ⟨rfl, hb⟩
    have hE := Lib.hid hb
    clear hb HF
    go_wp2_with fail
    go_ret
    exact ⟨rfl, hE.out⟩
  · rw [h3]
    rw [h1, Nat.zero_add] at HF
    clear h1 h2 h3
    have p1 : (j : Int) < (cs.length : Int) := by omega
    have p2 : (0 : Int) ≤ (j : Int) := Int.natCast_nonneg _
    have t1 : decide ((j : Int) < 0) = false := by simp
    have HJ := Lib.hid (List.getElem?_eq_getElem hj)
    generalize cs[j] = cc at *
    obtain ⟨cx, cv⟩ := cc
    dsimp only
    go_enter Tryz.func134, Tryz.ntmps134
    go_wp2_with fail
    refine HF.out.mono ?_
    rintro e w1 ⟨rfl, hb⟩
    have hE := Lib.hid hb
    have a0 := HH.out _ hb
    obtain ⟨b, off, rfl, hbl, hcc⟩ := HC.out _ hb (by rintro rfl; simp at hj)
    obtain ⟨e0, e1⟩ := hcc j _ HJ.out
    dsimp only at e0 e1
    clear hb HF hcc
    go_wp2_with fail
    go_ret
    exact ⟨rfl, hE.out⟩
end Go.Proofs.YtjaegddnikkibaaGreatDoor
namespace Go.Proofs.YtjaegddnikkibaaGreatDoor
open Go.RowKit Go.Sort Go.Maps

def putV (x v : Int) : List (Int × Int) → List (Int × Int)
  | [] => [(x, v)]
  | c :: r => if c.1 = x then (x, v) :: r else c :: putV x v r
theorem getV_put (x v y : Int) : ∀ cs, getV (putV x v cs) y = if y = x then v else getV cs y
  | [] => by
    unfold putV getV getV
    by_cases h : y = x
    · rw [if_pos h, if_pos h.symm]
    · rw [if_neg h, if_neg (fun e => h e.symm)]
  | c :: r => by
    have ih := getV_put x v y r
    unfold putV
    by_cases hc : c.1 = x
    · rw [if_pos hc]
      show (if x = y then v else getV r y) = if y = x then v else (if c.1 = y then c.2 else getV r y)
      by_cases h : y = x
      · rw [if_pos h, if_pos h.symm]
      · rw [if_neg h, if_neg (fun e => h e.symm), if_neg (fun e => h (by rw [← e, hc]))]
    · rw [if_neg hc]
      show (if c.1 = y then c.2 else getV (putV x v r) y) = if y = x then v else (if c.1 = y then c.2 else getV r y)
      rw [ih]
      by_cases h : y = x
      · rw [if_pos h, if_pos h, if_neg (fun e => hc (by rw [e, h]))]
      · rw [if_neg h, if_neg h]
theorem putV_none {x : Int} (v : Int) : ∀ {cs : List (Int × Int)}, (∀ u, (x, u) ∉ cs) → putV x v cs = cs ++ [(x, v)]
  | [], _ => rfl
  | c :: r, h => by
    unfold putV
    rw [if_neg (fun e => h c.2 (by rw [← e]; simp)), putV_none v (fun u hu => h u (by simp [hu]))]; rfl
theorem findV_put (x v : Int) : ∀ (cs : List (Int × Int)) (k j : Nat), findV x k cs = ((k + j : Nat) : Int) → j < cs.length → putV x v cs = cs.set j (x, v)
  | [], _, _, _, hj => by simp at hj
  | c :: r, k, j, h, hj => by
    unfold findV at h
    unfold putV
    by_cases hc : c.1 = x
    · rw [if_pos hc] at h ⊢
      have : j = 0 := by omega
      subst this; rfl
    · rw [if_neg hc] at h ⊢
      cases j with
      | zero =>
        exfalso
        rcases findV_cases x r (k + 1) with ⟨h1, -, -⟩ | ⟨m, -, h1, -, -⟩ <;> rw [h1] at h <;> omega
      | succ j =>
        rw [findV_put x v r (k + 1) j (by rw [h]; congr 1; omega) (by simpa using hj)]; rfl
theorem putV_len (x v : Int) : ∀ cs, (putV x v cs).length ≤ cs.length + 1
  | [] => by simp [putV]
  | c :: r => by
    unfold putV
    split
    · simp
    · have := putV_len x v r; simp only [List.length_cons]; omega
end Go.Proofs.YtjaegddnikkibaaGreatDoor
namespace Go.Proofs.YtjaegddnikkibaaGreatDoor
open Go.RowKit Go.Sort Go.Maps

structure HeapR (w : World) (h : Nat) (cs : List (Int × Int)) : Prop where
  ex : ∃ v, w.cell? ⟨h, 0, none⟩ = some v ∧ w.frozen? ⟨h, 0, none⟩ = false ∧ w.ownsRow (h + 1) 91 2 v cs.length (cs.flatMap cellC)
/-- all stays but block h and later blocks of cells -/
structure PutF (h : Nat) (w w' : World) : Prop where
  os : w'.os = w.os
  tape : w'.tape = w.tape
  output : w'.output = w.output
  size : w.heap.size ≤ w'.heap.size
  block : ∀ i, i < w.heap.size → i ≠ h → (i ≤ h ∨ ∀ c fr, w.heap[i]? ≠ some (.cells c 91 fr)) → w'.heap[i]? = w.heap[i]?
theorem cellsAt_own {w : World} {base : Nat} {v : Value} {cs : List (Int × Int)} (h : w.ownsRow base 91 2 v cs.length (cs.flatMap cellC)) : ∃ A c, v = .slice A cs.length c ∧ CellsAt w A cs := by
  rcases h.2 with ⟨rfl, hn⟩ | ⟨g, cap, cur, rfl, hg, hb, r⟩
  · have : cs = [] := List.eq_nil_of_length_eq_zero hn
    subst this
    exact ⟨none, 0, rfl, fun h => absurd rfl h⟩
  · refine ⟨some ⟨g, 0, none⟩, cap, rfl, fun _ => ⟨g, 0, rfl, (Array.getElem?_eq_some_iff.1 hb).1, fun k x hk => ?_⟩⟩
    have hlt : k < cs.length := (List.getElem?_eq_some_iff.1 hk).1
    have key : ∀ j, j < 2 → w.cell? ⟨g, 0 + k * 2 + j, none⟩ = (cellC x)[j]? := fun j hj => by
      rw [Nat.zero_add, h.cellAt (k * 2 + j) (by omega)]
      exact flat_at cellC 2 (fun _ => rfl) cs k j x hk hj
    exact ⟨key 0 (by decide), key 1 (by decide)⟩
theorem own_isCell {w : World} {base n : Nat} {v : Value} {xs : List Value} (h : w.ownsRow base 91 2 v n xs) {i : Nat} (hi : v.ownBlock = some i) : base ≤ i ∧ ∃ c fr, w.heap[i]? = some (.cells c 91 fr) := by
  rcases h.2 with ⟨rfl, hn⟩ | ⟨g, cap, cur, rfl, hg, hb, r⟩
  · cases hi
  · injection hi with hi
    subst hi
    exact ⟨hg, _, _, hb⟩
theorem putF_append {w w1 w3 : World} {h n : Nat} {v u : Value} {xs : List Value} {o : Obj} (hb : Below w.heap.size w w1) (own : w1.ownsRow (h + 1) 91 2 v n xs) (hg : (w1.alloc o).grownBy w3 v.ownBlock) : PutF h w (w3.setCell ⟨h, 0, none⟩ u) := by
  refine ⟨hg.os.trans hb.os, hg.tape.trans hb.tape, hg.output.trans hb.output, ?_, fun i hi hih hc => ?_⟩
  · have := hb.size
    have h2 := hg.size
    simp at h2 ⊢; omega
  · have hi1 := Nat.lt_of_lt_of_le hi hb.size
    rw [heap_setCell_other _ _ i _ (by simpa using hih)]
    rw [hg.block i (by simp; omega) (fun e => by
      obtain ⟨h1, c, fr, h2⟩ := own_isCell own e.symm
      rcases hc with hc | hc
      · omega
      · exact hc c fr (by rw [← hb.block i hi]; exact h2))]
    rw [((Below.refl w1.heap.size w1).alloc (Nat.le_refl _) o).block i hi1, hb.block i hi]
theorem putF_set {w w1 : World} {h n g j cap : Nat} {u : Value} {xs : List Value} (hb : Below w.heap.size w w1) (own : w1.ownsRow (h + 1) 91 2 (.slice (some ⟨g, 0, none⟩) n cap) n xs) : PutF h w (w1.setCell ⟨g, j, none⟩ u) := by
  refine ⟨hb.os, hb.tape, hb.output, by simpa using hb.size, fun i hi hih hc => ?_⟩
  rw [heap_setCell_other _ _ i _ (fun e => by
    obtain ⟨h1, c, fr, h2⟩ := own_isCell own (i := g) rfl
    have e : i = g := by simpa using e
    subst e
    rcases hc with hc | hc
    · omega
    · exact hc c fr (by rw [← hb.block i hi]; exact h2))]
  exact hb.block i hi
theorem cells_set (v : Int) : ∀ (cs : List (Int × Int)) (j : Nat) (hj : j < cs.length), (cs.flatMap cellC).set (j * 2 + 1) (.int .i64 v) = (cs.set j (cs[j].1, v)).flatMap cellC
  | [], _, hj => by simp at hj
  | c :: r, 0, _ => rfl
  | c :: r, j + 1, hj => by
    have ih := cells_set v r j (by simpa using hj)
    show (Value.int .i64 c.1 :: Value.int .i64 c.2 :: r.flatMap cellC).set ((j + 1) * 2 + 1) _ = _
    rw [show (j + 1) * 2 + 1 = (j * 2 + 1) + 1 + 1 by omega, List.set_cons_succ, List.set_cons_succ, ih]
    rfl

set_option maxHeartbeats 2000000 in
set_option maxRecDepth 100000 in
theorem rfPut_any (h : Nat) (cs : List (Int × Int)) (x v : Int) (hn : cs.length ≤ 68157440) (w : World) (hH : HeapR w h cs) :
    Calls Tryz.prog 135 #[.pointer (some ⟨h, 0, none⟩), .int .i64 x, .int .i64 v] w fun e w' => e = .returned (.tuple #[]) ∧ HeapR w' h (putV x v cs) ∧ PutF h w w' := by
  obtain ⟨u, hu, hf, hown⟩ := hH.ex
  obtain ⟨A, cap, rfl, hc⟩ := cellsAt_own hown
  have HF := Lib.hid (rfFind_any h A cap cs x hn w hu hc)
  have hl := World.block_lt_of_cell? _ _ hu
  have HU := Lib.hid (fun W (hb : Below w.heap.size w W) => (hb.cell (p := ⟨h, 0, none⟩) hl).trans hu)
  have HZ := Lib.hid (fun W (hb : Below w.heap.size w W) => (hb.frozen (p := ⟨h, 0, none⟩) hl).trans hf)
  have HO := Lib.hid (fun W (hb : Below w.heap.size w W) => own_belowI hown hb)
  obtain ⟨i0, hi0, hz0, hz1, hz2⟩ := info_parts cellInfo
  rcases findV_cases x cs 0 with ⟨h1, -, h3⟩ | ⟨j, hj, h1, h2, -⟩
  · rw [h1] at HF
    have HP := Lib.hid (putV_none v h3)
    clear h1 h3 hu hf hown hc hH
    go_enter Tryz.func135, Tryz.ntmps135
    go_wp2_with fail
    refine HF.out.mono ?_
    rintro e w1 ⟨rfl, hb⟩
    have hE := Lib.hid hb
    have a0 := HU.out _ hb
    have own1 := Lib.hid (HO.out _ hb)
    have hz := Lib.hid (HZ.out _ hb)
    have hl1 : h < w1.heap.size := Nat.lt_of_lt_of_le hl hb.size
    clear hb HF
    go_wp2_with (at_builtin; refine wpList_append_own _ rfl _ _ 32 rfl (h + 1) 91 i0 _ 2 16 Tryz.underlying32 hi0 hz0 hz1 hz2 rfl (by decide) _ _ _ rfl (own1.out.alloc _) ⟨w1.heap.size, 0, none⟩ 1 1 [.int .i64 x, .int .i64 v] rfl rfl (World.news_of_block (cs := #[.int .i64 x, .int .i64 v]) (t := 91) (fr := (0, 0)) (heap_alloc_new w1 _)) (by simp [Value.oneCell']) (by unfold maxLen; omega) (by omega) (by simp; omega) ?_)
    intro v' w3 hown' hgrow hnil'
    rcases hown'.2 with ⟨-, h0⟩ | ⟨gg, cp, cur, rfl, hbase, hbk, r1⟩
    · exact absurd h0 (by omega)
    clear hbk r1 hbase
    have hPF := Lib.hid (fun u => putF_append (u := u) hE.out own1.out hgrow)
    have hbh : w3.heap[h]? = w1.heap[h]? := by
      rw [hgrow.block h (by simp; omega) (fun e => by have := (own_isCell own1.out e.symm).1; omega)]
      exact ((Below.refl w1.heap.size w1).alloc (Nat.le_refl _) _).block h hl1
    have b0 : w3.cell? ⟨h, 0, none⟩ = some (.slice A cs.length cap) := (World.cell?_of_block (w := w1) hbh).trans a0
    have bz : w3.frozen? ⟨h, 0, none⟩ = false := (World.frozen?_of_block (w := w1) hbh).trans hz.out
    have hown3 : Hid (∀ u, (w3.setCell ⟨h, 0, none⟩ u).ownsRow (h + 1) 91 2 (.slice (some ⟨gg, 0, none⟩) (cs.length + 1) cp) (putV x v cs).length ((putV x v cs).flatMap cellC)) := Lib.hid (fun u => by
      rw [HP.out, List.length_append, List.flatMap_append]
      exact ownsRow_setCell_below (a := ⟨h, 0, none⟩) hown' (Nat.lt_succ_self _) u)
    have hset : Hid ((w3.setCell ⟨h, 0, none⟩ (.slice (some ⟨gg, 0, none⟩) (cs.length + 1) cp)).cell? ⟨h, 0, none⟩ = some (.slice (some ⟨gg, 0, none⟩) (cs.length + 1) cp)) := Lib.hid (World.cell?_setCell_same _ _ _ b0)
    have hfz : Hid ((w3.setCell ⟨h, 0, none⟩ (.slice (some ⟨gg, 0, none⟩) (cs.length + 1) cp)).frozen? ⟨h, 0, none⟩ = false) := Lib.hid (by
      first | (rw [World.frozen?_setCell]; exact bz) | (simpa using bz))
    clear hown' hgrow hnil' hbh own1 hE
    go_wp2_with fail
    go_end0
    exact ⟨rfl, ⟨_, hset.out, hfz.out, hown3.out _⟩, hPF.out _⟩
  · rw [h1, Nat.zero_add] at HF
    have HP : Hid (putV x v cs = cs.set j (cs[j].1, v)) := Lib.hid (by rw [findV_put x v cs 0 j h1 hj, h2])
    have t1 : decide ((j : Int) < 0) = false := by simp
    have p1 : (j : Int) < (cs.length : Int) := by omega
    have p2 : (0 : Int) ≤ (j : Int) := Int.natCast_nonneg _
    clear h1 h2 hu hf hown hc hH
    go_enter Tryz.func135, Tryz.ntmps135
    go_wp2_with fail
    refine HF.out.mono ?_
    rintro e w1 ⟨rfl, hb⟩
    have hE := Lib.hid hb
    have a0 := HU.out _ hb
    have own1 := Lib.hid (HO.out _ hb)
    have hz := Lib.hid (HZ.out _ hb)
    clear hb HF
    rcases own1.out.2 with ⟨-, h0⟩ | ⟨g, cap', cur, hsl, hbase, hbk, r1⟩
    · omega
    injection hsl with hs1 _ hs2
    subst hs1; subst hs2
    have f1 : w1.frozen? ⟨g, j * 2 + 1, none⟩ = false := World.ownsRow.frozenAt own1.out _
    obtain ⟨A', c', he, hcA⟩ := cellsAt_own own1.out
    injection he with he1 _ _
    subst he1
    have g1 := (hcA.at (List.getElem?_eq_getElem hj)).2
    rw [Nat.zero_add] at g1
    have hPF := Lib.hid (fun u => putF_set (j := j * 2 + 1) (u := u) hE.out own1.out)
    have hO2 : Hid ((w1.setCell ⟨g, j * 2 + 1, none⟩ (.int .i64 v)).ownsRow (h + 1) 91 2 (.slice (some ⟨g, 0, none⟩) cs.length cap) (putV x v cs).length ((putV x v cs).flatMap cellC)) := Lib.hid (by
      have := (World.ownsRow.stored own1.out (j * 2 + 1) (.int .i64 v)).1
      rw [cells_set v cs j hj, ← HP.out] at this
      rw [show (putV x v cs).length = cs.length by rw [HP.out, List.length_set]]
      exact this)
    have hgh : g ≠ h := by omega
    have hset : Hid ((w1.setCell ⟨g, j * 2 + 1, none⟩ (.int .i64 v)).cell? ⟨h, 0, none⟩ = some (.slice (some ⟨g, 0, none⟩) cs.length cap)) := Lib.hid ((World.cell?_setCell_other _ _ _ _ (by simp [Ne.symm hgh])).trans a0)
    have hfz : Hid ((w1.setCell ⟨g, j * 2 + 1, none⟩ (.int .i64 v)).frozen? ⟨h, 0, none⟩ = false) := Lib.hid (by
      first | (rw [World.frozen?_setCell]; exact hz.out) | (simpa using hz.out))
    clear own1 hE hbk r1 hcA
    generalize cs[j].2 = old at *
    go_wp2_with fail
    go_end0
    exact ⟨rfl, ⟨_, hset.out, hfz.out, hO2.out⟩, hPF.out _⟩
end Go.Proofs.YtjaegddnikkibaaGreatDoor
namespace Go.Proofs.YtjaegddnikkibaaGreatDoor
open Go.RowKit Go.Sort Go.Maps

theorem HeapR.lt {w : World} {h : Nat} {cs : List (Int × Int)} (H : HeapR w h cs) : h < w.heap.size := by
  obtain ⟨v, h1, -, -⟩ := H.ex
  exact World.block_lt_of_cell? _ _ h1
theorem HeapR.below {w W : World} {h : Nat} {cs : List (Int × Int)} (H : HeapR w h cs) (hb : Below w.heap.size w W) : HeapR W h cs := by
  have hl := H.lt
  obtain ⟨v, h1, h2, h3⟩ := H.ex
  exact ⟨v, (hb.cell (p := ⟨h, 0, none⟩) hl).trans h1, (hb.frozen (p := ⟨h, 0, none⟩) hl).trans h2, own_belowI h3 hb⟩
theorem PutF.ofBelow {h : Nat} {w W : World} (hb : Below w.heap.size w W) : PutF h w W := ⟨hb.os, hb.tape, hb.output, hb.size, fun i hi _ _ => hb.block i hi⟩
theorem PutF.trans {h : Nat} {a b c : World} (h1 : PutF h a b) (h2 : PutF h b c) : PutF h a c :=
  ⟨h2.os.trans h1.os, h2.tape.trans h1.tape, h2.output.trans h1.output, Nat.le_trans h1.size h2.size, fun i hi hih hc => by
    have e := h1.block i hi hih hc
    rw [h2.block i (Nat.lt_of_lt_of_le hi h1.size) hih (hc.imp id (fun hc c fr => by rw [e]; exact hc c fr)), e]⟩
theorem PutF.cell {h : Nat} {w W : World} (hf : PutF h w W) {p : Addr} (hp : p.block < w.heap.size) (hn : p.block ≠ h) (hc : p.block ≤ h ∨ ∀ c fr, w.heap[p.block]? ≠ some (.cells c 91 fr)) : W.cell? p = w.cell? p := World.cell?_of_block (w := w) (hf.block p.block hp hn hc)
theorem rfGet_of {h : Nat} {cs : List (Int × Int)} {x : Int} {w : World} (hn : cs.length ≤ 68157440) (H : HeapR w h cs) :
    Calls Tryz.prog 134 #[.pointer (some ⟨h, 0, none⟩), .int .i64 x] w fun e w' => e = .returned (.int .i64 (getV cs x)) ∧ Below w.heap.size w w' := by
  obtain ⟨v, h1, -, h3⟩ := H.ex
  obtain ⟨A, cap, rfl, hc⟩ := cellsAt_own h3
  exact rfGet_any h A cap cs x hn w h1 hc

def lookK : List (Int × Int) → Int → Option Int
  | [], _ => none
  | c :: r, x => if c.1 = x then some c.2 else lookK r x
theorem getV_look (x : Int) : ∀ cs, getV cs x = (lookK cs x).getD 0
  | [] => rfl
  | c :: r => by
    have ih := getV_look x r
    unfold getV lookK
    split
    · rfl
    · exact ih
theorem lookK_put (x v y : Int) : ∀ cs, lookK (putV x v cs) y = if y = x then some v else lookK cs y
  | [] => by
    unfold putV lookK lookK
    by_cases h : y = x
    · rw [if_pos h, if_pos h.symm]
    · rw [if_neg h, if_neg (fun e => h e.symm)]
  | c :: r => by
    have ih := lookK_put x v y r
    unfold putV
    by_cases hc : c.1 = x
    · rw [if_pos hc]
      show (if x = y then some v else lookK r y) = if y = x then some v else (if c.1 = y then some c.2 else lookK r y)
      by_cases h : y = x
      · rw [if_pos h, if_pos h.symm]
      · rw [if_neg h, if_neg (fun e => h e.symm), if_neg (fun e => h (by rw [← e, hc]))]
    · rw [if_neg hc]
      show (if c.1 = y then some c.2 else lookK (putV x v r) y) = if y = x then some v else (if c.1 = y then some c.2 else lookK r y)
      rw [ih]
      by_cases h : y = x
      · rw [if_pos h, if_pos h, if_neg (fun e => hc (by rw [e, h]))]
      · rw [if_neg h, if_neg h]
theorem keys_mem {x v k : Int} : ∀ {cs : List (Int × Int)}, k ∈ (putV x v cs).map (·.1) → k = x ∨ k ∈ cs.map (·.1)
  | [], h => by
    left; simpa [putV] using h
  | c :: r, h => by
    unfold putV at h
    split at h
    · rcases List.mem_cons.1 h with h | h
      · exact Or.inl h
      · exact Or.inr (List.mem_cons_of_mem _ h)
    · rcases List.mem_cons.1 h with h | h
      · exact Or.inr (by rw [h]; simp)
      · exact (keys_mem h).imp id (List.mem_cons_of_mem _)
theorem keys_put {x v : Int} : ∀ {cs : List (Int × Int)}, (cs.map (·.1)).Nodup → ((putV x v cs).map (·.1)).Nodup
  | [], _ => by simp [putV]
  | c :: r, h => by
    have h1 := List.nodup_cons.1 h
    unfold putV
    split
    · rename_i hc
      rw [List.map_cons]
      exact List.nodup_cons.2 ⟨by rw [← hc]; exact h1.1, h1.2⟩
    · rename_i hc
      rw [List.map_cons]
      exact List.nodup_cons.2 ⟨fun hm => by
        rcases keys_mem hm with e | e
        · exact hc e
        · exact h1.1 e, keys_put h1.2⟩
theorem look_mem {x v : Int} : ∀ {cs : List (Int × Int)}, (cs.map (·.1)).Nodup → ((x, v) ∈ cs ↔ lookK cs x = some v)
  | [], _ => by simp [lookK]
  | c :: r, h => by
    have h1 := List.nodup_cons.1 h
    have ih := look_mem (x := x) (v := v) h1.2
    unfold lookK
    by_cases hc : c.1 = x
    · rw [if_pos hc, List.mem_cons]
      constructor
      · rintro (e | e)
        · rw [← e]
        · exact absurd (List.mem_map.2 ⟨_, e, hc.symm⟩) h1.1
      · intro e
        injection e with e
        exact Or.inl (by rw [← hc, ← e])
    · rw [if_neg hc, List.mem_cons, ih]
      constructor
      · rintro (e | e)
        · exact absurd (by rw [← e]) hc
        · exact e
      · exact Or.inr

set_option maxHeartbeats 4000000 in
set_option maxRecDepth 100000 in
theorem rfDoneK_any (h : Nat) (cs0 : List (Int × Int)) (th kd bg en ck pl : Int) (wt : Bool) (dA : Option Addr) (dc : Nat) (evs : List Ev) (N : Nat) (hN : cs0.length ≤ N) (hNN : N + evs.length * 65 ≤ 68157440) (he : ∀ e ∈ evs, ∃ t, evB t e = true) (w : World) (hH : HeapR w h cs0) (ha : ∀ W, PutF h w W → EvsAt W W.heap.size dA evs) :
    Calls Tryz.prog 37 #[.pointer (some ⟨h, 0, none⟩), .agg #[.int .i64 th, .int .u8 kd, .int .i64 bg, .int .i64 en, .int .i64 ck, .int .i64 pl, .bool wt, .slice dA evs.length dc]] w fun e w' =>
      e = .returned (.bool (okV (getV cs0) evs)) ∧ (okV (getV cs0) evs = true → ∃ cs, cs.length ≤ N + evs.length * 65 ∧ HeapR w' h cs ∧ lookK cs = doVK (lookK cs0) evs ∧ ((cs0.map (·.1)).Nodup → (cs.map (·.1)).Nodup)) ∧ PutF h w w' := by
  have hhl := hH.lt
  have HE := Lib.hid he
  obtain ⟨F, hF⟩ : ∃ F, getV cs0 = F := ⟨_, rfl⟩
  rw [hF]
  obtain ⟨FK, hFK⟩ : ∃ FK, lookK cs0 = FK := ⟨_, rfl⟩
  rw [hFK]
  obtain ⟨X, hX⟩ : ∃ X, w.heap.size = X := ⟨_, rfl⟩
  obtain ⟨w0, hw0⟩ : ∃ w0, w.alloc (.cells #[.int .i64 th, .int .u8 kd, .int .i64 bg, .int .i64 en, .int .i64 ck, .int .i64 pl, .bool wt, .slice dA evs.length dc] 74 (0, 0)) = w0 := ⟨_, rfl⟩
  have HB0 : Hid (Below w.heap.size w w0) := Lib.hid (by rw [← hw0]; exact (Below.refl _ _).alloc (Nat.le_refl _) _)
  have a7 : w0.cell? ⟨X, 7, none⟩ = some (.slice dA evs.length dc) := by rw [← hw0, ← hX]; simp
  have hXl : X < w0.heap.size := by rw [← hw0, ← hX]; simp
  have hXb : w0.heap[X]? = some (.cells #[.int .i64 th, .int .u8 kd, .int .i64 bg, .int .i64 en, .int .i64 ck, .int .i64 pl, .bool wt, .slice dA evs.length dc] 74 (0, 0)) := by rw [← hw0, ← hX]; exact heap_alloc_new w _
  have hXh : X ≠ h := by omega
  have HD := Lib.hid (fun W (hf : PutF h w0 W) => (hf.cell (p := ⟨X, 7, none⟩) hXl hXh (Or.inr (fun c fr e => by rw [hXb] at e; injection e with e; injection e with _ e; exact absurd e (by decide)))).trans a7)
  have HA := Lib.hid (fun W (hf : PutF h w0 W) => ha W ((PutF.ofBelow HB0.out).trans hf))
  have HEND := Lib.hid (fun W (hf : PutF h w0 W) => (PutF.ofBelow HB0.out).trans hf)
  have HS0 := Lib.hid (hH.below HB0.out)
  have hok0 : Hid (okV F evs = okV (getV cs0) (evs.drop 0)) := Lib.hid (by rw [hF]; rfl)
  have hdo0 : Hid (doVK FK evs = doVK (lookK cs0) (evs.drop 0)) := Lib.hid (by rw [hFK]; rfl)
  have hnd0 : Hid ((cs0.map (·.1)).Nodup → (cs0.map (·.1)).Nodup) := Lib.hid id
  have HP0 : Hid (PutF h w0 w0) := Lib.hid (PutF.ofBelow (Below.refl _ _))
  have hhl0 : h < w0.heap.size := Nat.lt_of_lt_of_le hhl HB0.out.size
  clear ha he hH hF hFK hXb hXl
  go_enter Tryz.func37, Tryz.ntmps37
  go_wp2_with fail
  clear hw0 hX a7
  go_loopw [5] (fun i wr => ∃ (k : Nat) (cs : List (Int × Int)), i = .int .i64 k ∧ k ≤ evs.length ∧ cs.length ≤ N + k * 65 ∧ Hid (okV F evs = okV (getV cs) (evs.drop k)) ∧ Hid (doVK FK evs = doVK (lookK cs) (evs.drop k)) ∧ Hid ((cs0.map (·.1)).Nodup → (cs.map (·.1)).Nodup) ∧ Hid (HeapR wr h cs) ∧ Hid (PutF h w0 wr)) (fun i _ => evs.length - (intOf i).toNat)
  case atStart => exact ⟨0, cs0, rfl, Nat.zero_le _, by omega, hok0, hdo0, hnd0, HS0, HP0⟩
  case round =>
    clear HS0 hok0 hdo0 hnd0 HP0
    obtain ⟨k, cs, rfl, hk, hcl, hok, hdo, hnd, hH, hW⟩ := hrel
    have a7 := HD.out _ hW.out
    by_cases hlt : k < evs.length
    · obtain ⟨b, off, rfl, hbl, hc⟩ := HA.out _ hW.out (by rintro rfl; simp at hlt)
      obtain ⟨e0, e1, e2, e3⟩ := hc k _ (List.getElem?_eq_getElem hlt)
      obtain ⟨t, ht⟩ := HE.out _ (List.getElem_mem hlt)
      have hs1 := Lib.hid (okV_step (getV cs) hlt)
      have hs2 := Lib.hid (doVK_step (lookK cs) hlt)
      have q1 : (k : Int) < (evs.length : Int) := by omega
      have q2 : (0 : Int) ≤ (k : Int) := Int.natCast_nonneg _
      clear hc
      generalize evs[k] = ev at *
      obtain ⟨eth, ekd, ea, eb⟩ := ev
      dsimp only at *
      obtain ⟨-, hev⟩ := evB_iff.1 ht
      clear ht
      obtain ⟨V, hV⟩ : ∃ V, wr.heap.size = V := ⟨_, rfl⟩
      obtain ⟨w1, hw1⟩ : ∃ w1, wr.alloc (.cells #[.int .i64 eth, .int .u8 ekd, .int .i64 ea, .int .i64 eb] 101 (0, 0)) = w1 := ⟨_, rfl⟩
      have d1 : w1.cell? ⟨V, 1, none⟩ = some (.int .u8 ekd) := by rw [← hw1, ← hV]; simp
      have d2 : w1.cell? ⟨V, 2, none⟩ = some (.int .i64 ea) := by rw [← hw1, ← hV]; simp
      have d3 : w1.cell? ⟨V, 3, none⟩ = some (.int .i64 eb) := by rw [← hw1, ← hV]; simp
      have hVl : V < w1.heap.size := by rw [← hw1, ← hV]; simp
      have hVb : w1.heap[V]? = some (.cells #[.int .i64 eth, .int .u8 ekd, .int .i64 ea, .int .i64 eb] 101 (0, 0)) := by rw [← hw1, ← hV]; exact heap_alloc_new wr _
      have hVh : V ≠ h := by have := hH.out.lt; omega
      have hb1 : Below wr.heap.size wr w1 := by rw [← hw1]; exact (Below.refl _ _).alloc (Nat.le_refl _) _
      have hH1 := Lib.hid (hH.out.below hb1)
      have hW1 := Lib.hid (hW.out.trans (PutF.ofBelow hb1))
      have HSV := Lib.hid (fun W (hb : Below w1.heap.size w1 W) => (⟨hb, (hb.cell (p := ⟨V, 2, none⟩) hVl).trans d2, (hb.cell (p := ⟨V, 3, none⟩) hVl).trans d3⟩ : Below w1.heap.size w1 W ∧ W.cell? ⟨V, 2, none⟩ = some (.int .i64 ea) ∧ W.cell? ⟨V, 3, none⟩ = some (.int .i64 eb)))
      have HDV := Lib.hid (fun W (hf : PutF h w1 W) => (⟨(hf.cell (p := ⟨V, 2, none⟩) hVl hVh (Or.inr (fun c fr e => by rw [hVb] at e; injection e with e; injection e with _ e; exact absurd e (by decide)))).trans d2, (hf.cell (p := ⟨V, 3, none⟩) hVl hVh (Or.inr (fun c fr e => by rw [hVb] at e; injection e with e; injection e with _ e; exact absurd e (by decide)))).trans d3⟩ : W.cell? ⟨V, 2, none⟩ = some (.int .i64 ea) ∧ W.cell? ⟨V, 3, none⟩ = some (.int .i64 eb)))
      have HG := Lib.hid (fun W (hb : Below w1.heap.size w1 W) => rfGet_of (x := ea) (by omega) (hH1.out.below hb))
      have HWW := Lib.hid (fun W (hb : Below w1.heap.size w1 W) => hW1.out.trans (PutF.ofBelow hb))
      clear hb1 hVl hVb hW hH
      have hkd : ekd = 2 ∨ ekd = 4 ∨ ekd = 3 ∨ ekd = 5 ∨ ekd = 6 := by omega
      rcases hkd with rfl | rfl | rfl | rfl | rfl
      · skip
        have hok2 : Hid (okV F evs = ((getV cs ea == eb) && okV (getV cs) (evs.drop (k + 1)))) := Lib.hid (by rw [hok.out, hs1.out, if_pos (by simp), show doEv (getV cs) ⟨eth, 2, ea, eb⟩ = getV cs by unfold doEv; rw [if_neg (by simp), if_neg (by simp)]])
        have hdo2 : Hid (doVK FK evs = doVK (lookK cs) (evs.drop (k + 1))) := Lib.hid (by rw [hdo.out, hs2.out, show doEvK (lookK cs) ⟨eth, 2, ea, eb⟩ = lookK cs by unfold doEvK; rw [if_neg (by simp), if_neg (by simp)]])
        clear hok hdo hs1 hs2 hev
        by_cases hg : getV cs ea = eb
        · have t1 : (getV cs ea == eb) = true := by simpa using hg
          have t2 : (getV cs ea != eb) = false := by simpa using hg
          have t3 : decide (getV cs ea = eb) = true := by simpa using hg
          have hok3 : Hid (okV F evs = okV (getV cs) (evs.drop (k + 1))) := Lib.hid (by rw [hok2.out, t1, Bool.true_and])
          clear hok2 hg
          go_wp2_with fail
          refine wp_region_L (l := 6) (S := (fun W => Below w1.heap.size w1 W ∧ W.cell? ⟨V, 2, none⟩ = some (.int .i64 ea) ∧ W.cell? ⟨V, 3, none⟩ = some (.int .i64 eb))) (by kernel_rfl) ?_ (fun hHeld => ?_)
          · ((try dsimp only); (exact HSV.out _ (Below.refl _ _).drew))
          refine wpAnyL_take (i := 0) (oi := _) (v := ?v1) rfl (by kernel_rfl) (fun _ _ _ h => h) (by assumption) (Or.inl ⟨by kernel_rfl, ?y1⟩) ?r1
          case y1 => (intro w hSw; (try dsimp only at hSw); go_simp; all_goals with_reducible rfl)
          try simp only [Act.put, List.setIfInBounds_toArray, List.set_cons_zero, List.set_cons_succ]
          refine wpAnyL_take (i := 1) (oi := _) (v := ?v2) rfl (by kernel_rfl) (fun _ _ _ h => h) (by assumption) (Or.inl ⟨by kernel_rfl, ?y2⟩) ?r2
          case y2 => (intro w hSw; (try dsimp only at hSw); go_simp; all_goals with_reducible rfl)
          try simp only [Act.put, List.setIfInBounds_toArray, List.set_cons_zero, List.set_cons_succ]
          refine wpAnyL_take (i := 2) (oi := _) (v := ?v3) rfl (by kernel_rfl) (fun _ _ _ h => h) (by assumption) (Or.inl ⟨by kernel_rfl, ?y3⟩) ?r3
          case y3 => (intro w hSw; (try dsimp only at hSw); go_simp; all_goals with_reducible rfl)
          try simp only [Act.put, List.setIfInBounds_toArray, List.set_cons_zero, List.set_cons_succ]
          refine wpAnyL_take (i := 4) (oi := _) (v := ?v4) rfl (by kernel_rfl) (fun _ _ _ h => h) (by assumption) (Or.inl ⟨by kernel_rfl, ?y4⟩) ?r4
          case y4 => (intro w hSw; (try dsimp only at hSw); go_simp; all_goals with_reducible rfl)
          try simp only [Act.put, List.setIfInBounds_toArray, List.set_cons_zero, List.set_cons_succ]
          refine wpAnyL_take (i := 5) (oi := _) (v := ?v5) rfl (by kernel_rfl) (fun _ _ _ h => h) (by assumption) (Or.inl ⟨by kernel_rfl, ?y5⟩) ?r5
          case y5 => (intro w hSw; (try dsimp only at hSw); go_simp; all_goals with_reducible rfl)
          try simp only [Act.put, List.setIfInBounds_toArray, List.set_cons_zero, List.set_cons_succ]
          refine wpAnyL_step (j := 3) (o := _) (by kernel_rfl) rfl (fun K hK => ?_)
          (go_simp; go_at_call 134; refine (HG.out _ hHeld.1).mono ?_; rintro e w4 ⟨rfl, hb4⟩)
          refine hK _ _ ?_ (fun hHeld => ?_)
          · ((try dsimp only); (exact HSV.out _ (hHeld.1.trans (hb4.mono hHeld.1.size))))
          clear hK K
          try simp only [Act.put, List.setIfInBounds_toArray, List.set_cons_zero, List.set_cons_succ]
          refine wpAnyL_last (j := 6) (o := _) (by kernel_rfl) rfl (by rfl) (by kernel_rfl) (fun K hK => ?_)
          go_simp
          (refine hK _ _ ?_; clear hK K)
          try simp only [Act.put, List.setIfInBounds_toArray, List.set_cons_zero, List.set_cons_succ]
          have hE := Lib.hid (HWW.out _ hHeld.1)
          have hH2 := Lib.hid (hH1.out.below hHeld.1)
          clear hHeld
          go_wp2_with fail
          go_roundw
          case rel => exact ⟨k + 1, cs, by go_num, by omega, by omega, hok3, hdo2, hnd, hH2, hE⟩
          case measure => simp [intOf]; omega
        · have t1 : (getV cs ea == eb) = false := by simpa using hg
          have t2 : (getV cs ea != eb) = true := by simpa using hg
          have t3 : decide (getV cs ea = eb) = false := by simpa using hg
          have hok3 : Hid (okV F evs = false) := Lib.hid (by rw [hok2.out, t1, Bool.false_and])
          clear hok2 hg
          go_wp2_with fail
          refine wp_region_L (l := 6) (S := (fun W => Below w1.heap.size w1 W ∧ W.cell? ⟨V, 2, none⟩ = some (.int .i64 ea) ∧ W.cell? ⟨V, 3, none⟩ = some (.int .i64 eb))) (by kernel_rfl) ?_ (fun hHeld => ?_)
          · ((try dsimp only); (exact HSV.out _ (Below.refl _ _).drew))
          refine wpAnyL_take (i := 0) (oi := _) (v := ?v8) rfl (by kernel_rfl) (fun _ _ _ h => h) (by assumption) (Or.inl ⟨by kernel_rfl, ?y8⟩) ?r8
          case y8 => (intro w hSw; (try dsimp only at hSw); go_simp; all_goals with_reducible rfl)
          try simp only [Act.put, List.setIfInBounds_toArray, List.set_cons_zero, List.set_cons_succ]
          refine wpAnyL_take (i := 1) (oi := _) (v := ?v9) rfl (by kernel_rfl) (fun _ _ _ h => h) (by assumption) (Or.inl ⟨by kernel_rfl, ?y9⟩) ?r9
          case y9 => (intro w hSw; (try dsimp only at hSw); go_simp; all_goals with_reducible rfl)
          try simp only [Act.put, List.setIfInBounds_toArray, List.set_cons_zero, List.set_cons_succ]
          refine wpAnyL_take (i := 2) (oi := _) (v := ?v10) rfl (by kernel_rfl) (fun _ _ _ h => h) (by assumption) (Or.inl ⟨by kernel_rfl, ?y10⟩) ?r10
          case y10 => (intro w hSw; (try dsimp only at hSw); go_simp; all_goals with_reducible rfl)
          try simp only [Act.put, List.setIfInBounds_toArray, List.set_cons_zero, List.set_cons_succ]
          refine wpAnyL_take (i := 4) (oi := _) (v := ?v11) rfl (by kernel_rfl) (fun _ _ _ h => h) (by assumption) (Or.inl ⟨by kernel_rfl, ?y11⟩) ?r11
          case y11 => (intro w hSw; (try dsimp only at hSw); go_simp; all_goals with_reducible rfl)
          try simp only [Act.put, List.setIfInBounds_toArray, List.set_cons_zero, List.set_cons_succ]
          refine wpAnyL_take (i := 5) (oi := _) (v := ?v12) rfl (by kernel_rfl) (fun _ _ _ h => h) (by assumption) (Or.inl ⟨by kernel_rfl, ?y12⟩) ?r12
          case y12 => (intro w hSw; (try dsimp only at hSw); go_simp; all_goals with_reducible rfl)
          try simp only [Act.put, List.setIfInBounds_toArray, List.set_cons_zero, List.set_cons_succ]
          refine wpAnyL_step (j := 3) (o := _) (by kernel_rfl) rfl (fun K hK => ?_)
          (go_simp; go_at_call 134; refine (HG.out _ hHeld.1).mono ?_; rintro e w4 ⟨rfl, hb4⟩)
          refine hK _ _ ?_ (fun hHeld => ?_)
          · ((try dsimp only); (exact HSV.out _ (hHeld.1.trans (hb4.mono hHeld.1.size))))
          clear hK K
          try simp only [Act.put, List.setIfInBounds_toArray, List.set_cons_zero, List.set_cons_succ]
          refine wpAnyL_last (j := 6) (o := _) (by kernel_rfl) rfl (by rfl) (by kernel_rfl) (fun K hK => ?_)
          go_simp
          (refine hK _ _ ?_; clear hK K)
          try simp only [Act.put, List.setIfInBounds_toArray, List.set_cons_zero, List.set_cons_succ]
          have hE := Lib.hid (HWW.out _ hHeld.1)
          clear hHeld
          go_wp2_with fail
          go_ret
          exact ⟨by rw [hok3.out]; first | done | rfl, (fun h' => by rw [hok3.out] at h'; cases h'), HEND.out _ hE.out⟩
      · skip
        have hok2 : Hid (okV F evs = ((getV cs ea == eb) && okV (getV cs) (evs.drop (k + 1)))) := Lib.hid (by rw [hok.out, hs1.out, if_pos (by simp), show doEv (getV cs) ⟨eth, 4, ea, eb⟩ = getV cs by unfold doEv; rw [if_neg (by simp), if_neg (by simp)]])
        have hdo2 : Hid (doVK FK evs = doVK (lookK cs) (evs.drop (k + 1))) := Lib.hid (by rw [hdo.out, hs2.out, show doEvK (lookK cs) ⟨eth, 4, ea, eb⟩ = lookK cs by unfold doEvK; rw [if_neg (by simp), if_neg (by simp)]])
        clear hok hdo hs1 hs2 hev
        by_cases hg : getV cs ea = eb
        · have t1 : (getV cs ea == eb) = true := by simpa using hg
          have t2 : (getV cs ea != eb) = false := by simpa using hg
          have t3 : decide (getV cs ea = eb) = true := by simpa using hg
          have hok3 : Hid (okV F evs = okV (getV cs) (evs.drop (k + 1))) := Lib.hid (by rw [hok2.out, t1, Bool.true_and])
          clear hok2 hg
          go_wp2_with fail
          refine wp_region_L (l := 6) (S := (fun W => Below w1.heap.size w1 W ∧ W.cell? ⟨V, 2, none⟩ = some (.int .i64 ea) ∧ W.cell? ⟨V, 3, none⟩ = some (.int .i64 eb))) (by kernel_rfl) ?_ (fun hHeld => ?_)
          · ((try dsimp only); (exact HSV.out _ (Below.refl _ _).drew))
          refine wpAnyL_take (i := 0) (oi := _) (v := ?v15) rfl (by kernel_rfl) (fun _ _ _ h => h) (by assumption) (Or.inl ⟨by kernel_rfl, ?y15⟩) ?r15
          case y15 => (intro w hSw; (try dsimp only at hSw); go_simp; all_goals with_reducible rfl)
          try simp only [Act.put, List.setIfInBounds_toArray, List.set_cons_zero, List.set_cons_succ]
          refine wpAnyL_take (i := 1) (oi := _) (v := ?v16) rfl (by kernel_rfl) (fun _ _ _ h => h) (by assumption) (Or.inl ⟨by kernel_rfl, ?y16⟩) ?r16
          case y16 => (intro w hSw; (try dsimp only at hSw); go_simp; all_goals with_reducible rfl)
          try simp only [Act.put, List.setIfInBounds_toArray, List.set_cons_zero, List.set_cons_succ]
          refine wpAnyL_take (i := 2) (oi := _) (v := ?v17) rfl (by kernel_rfl) (fun _ _ _ h => h) (by assumption) (Or.inl ⟨by kernel_rfl, ?y17⟩) ?r17
          case y17 => (intro w hSw; (try dsimp only at hSw); go_simp; all_goals with_reducible rfl)
          try simp only [Act.put, List.setIfInBounds_toArray, List.set_cons_zero, List.set_cons_succ]
          refine wpAnyL_take (i := 4) (oi := _) (v := ?v18) rfl (by kernel_rfl) (fun _ _ _ h => h) (by assumption) (Or.inl ⟨by kernel_rfl, ?y18⟩) ?r18
          case y18 => (intro w hSw; (try dsimp only at hSw); go_simp; all_goals with_reducible rfl)
          try simp only [Act.put, List.setIfInBounds_toArray, List.set_cons_zero, List.set_cons_succ]
          refine wpAnyL_take (i := 5) (oi := _) (v := ?v19) rfl (by kernel_rfl) (fun _ _ _ h => h) (by assumption) (Or.inl ⟨by kernel_rfl, ?y19⟩) ?r19
          case y19 => (intro w hSw; (try dsimp only at hSw); go_simp; all_goals with_reducible rfl)
          try simp only [Act.put, List.setIfInBounds_toArray, List.set_cons_zero, List.set_cons_succ]
          refine wpAnyL_step (j := 3) (o := _) (by kernel_rfl) rfl (fun K hK => ?_)
          (go_simp; go_at_call 134; refine (HG.out _ hHeld.1).mono ?_; rintro e w4 ⟨rfl, hb4⟩)
          refine hK _ _ ?_ (fun hHeld => ?_)
          · ((try dsimp only); (exact HSV.out _ (hHeld.1.trans (hb4.mono hHeld.1.size))))
          clear hK K
          try simp only [Act.put, List.setIfInBounds_toArray, List.set_cons_zero, List.set_cons_succ]
          refine wpAnyL_last (j := 6) (o := _) (by kernel_rfl) rfl (by rfl) (by kernel_rfl) (fun K hK => ?_)
          go_simp
          (refine hK _ _ ?_; clear hK K)
          try simp only [Act.put, List.setIfInBounds_toArray, List.set_cons_zero, List.set_cons_succ]
          have hE := Lib.hid (HWW.out _ hHeld.1)
          have hH2 := Lib.hid (hH1.out.below hHeld.1)
          clear hHeld
          go_wp2_with fail
          go_roundw
          case rel => exact ⟨k + 1, cs, by go_num, by omega, by omega, hok3, hdo2, hnd, hH2, hE⟩
          case measure => simp [intOf]; omega
        · have t1 : (getV cs ea == eb) = false := by simpa using hg
          have t2 : (getV cs ea != eb) = true := by simpa using hg
          have t3 : decide (getV cs ea = eb) = false := by simpa using hg
          have hok3 : Hid (okV F evs = false) := Lib.hid (by rw [hok2.out, t1, Bool.false_and])
          clear hok2 hg
          go_wp2_with fail
          refine wp_region_L (l := 6) (S := (fun W => Below w1.heap.size w1 W ∧ W.cell? ⟨V, 2, none⟩ = some (.int .i64 ea) ∧ W.cell? ⟨V, 3, none⟩ = some (.int .i64 eb))) (by kernel_rfl) ?_ (fun hHeld => ?_)
          · ((try dsimp only); (exact HSV.out _ (Below.refl _ _).drew))
          refine wpAnyL_take (i := 0) (oi := _) (v := ?v22) rfl (by kernel_rfl) (fun _ _ _ h => h) (by assumption) (Or.inl ⟨by kernel_rfl, ?y22⟩) ?r22
          case y22 => (intro w hSw; (try dsimp only at hSw); go_simp; all_goals with_reducible rfl)
          try simp only [Act.put, List.setIfInBounds_toArray, List.set_cons_zero, List.set_cons_succ]
          refine wpAnyL_take (i := 1) (oi := _) (v := ?v23) rfl (by kernel_rfl) (fun _ _ _ h => h) (by assumption) (Or.inl ⟨by kernel_rfl, ?y23⟩) ?r23
          case y23 => (intro w hSw; (try dsimp only at hSw); go_simp; all_goals with_reducible rfl)
          try simp only [Act.put, List.setIfInBounds_toArray, List.set_cons_zero, List.set_cons_succ]
          refine wpAnyL_take (i := 2) (oi := _) (v := ?v24) rfl (by kernel_rfl) (fun _ _ _ h => h) (by assumption) (Or.inl ⟨by kernel_rfl, ?y24⟩) ?r24
          case y24 => (intro w hSw; (try dsimp only at hSw); go_simp; all_goals with_reducible rfl)
          try simp only [Act.put, List.setIfInBounds_toArray, List.set_cons_zero, List.set_cons_succ]
          refine wpAnyL_take (i := 4) (oi := _) (v := ?v25) rfl (by kernel_rfl) (fun _ _ _ h => h) (by assumption) (Or.inl ⟨by kernel_rfl, ?y25⟩) ?r25
          case y25 => (intro w hSw; (try dsimp only at hSw); go_simp; all_goals with_reducible rfl)
          try simp only [Act.put, List.setIfInBounds_toArray, List.set_cons_zero, List.set_cons_succ]
          refine wpAnyL_take (i := 5) (oi := _) (v := ?v26) rfl (by kernel_rfl) (fun _ _ _ h => h) (by assumption) (Or.inl ⟨by kernel_rfl, ?y26⟩) ?r26
          case y26 => (intro w hSw; (try dsimp only at hSw); go_simp; all_goals with_reducible rfl)
          try simp only [Act.put, List.setIfInBounds_toArray, List.set_cons_zero, List.set_cons_succ]
          refine wpAnyL_step (j := 3) (o := _) (by kernel_rfl) rfl (fun K hK => ?_)
          (go_simp; go_at_call 134; refine (HG.out _ hHeld.1).mono ?_; rintro e w4 ⟨rfl, hb4⟩)
          refine hK _ _ ?_ (fun hHeld => ?_)
          · ((try dsimp only); (exact HSV.out _ (hHeld.1.trans (hb4.mono hHeld.1.size))))
          clear hK K
          try simp only [Act.put, List.setIfInBounds_toArray, List.set_cons_zero, List.set_cons_succ]
          refine wpAnyL_last (j := 6) (o := _) (by kernel_rfl) rfl (by rfl) (by kernel_rfl) (fun K hK => ?_)
          go_simp
          (refine hK _ _ ?_; clear hK K)
          try simp only [Act.put, List.setIfInBounds_toArray, List.set_cons_zero, List.set_cons_succ]
          have hE := Lib.hid (HWW.out _ hHeld.1)
          clear hHeld
          go_wp2_with fail
          go_ret
          exact ⟨by rw [hok3.out]; first | done | rfl, (fun h' => by rw [hok3.out] at h'; cases h'), HEND.out _ hE.out⟩
      · skip
        have hgp : getV (putV ea eb cs) = doEv (getV cs) ⟨eth, 3, ea, eb⟩ := funext (fun y => by rw [getV_put]; unfold doEv; rw [if_pos (show (3 : Int) = 3 ∨ (3 : Int) = 5 by simp)])
        have hok3 : Hid (okV F evs = okV (getV (putV ea eb cs)) (evs.drop (k + 1))) := Lib.hid (by rw [hok.out, hs1.out, if_neg (by simp), Bool.true_and, hgp])
        have hgk : lookK (putV ea eb cs) = doEvK (lookK cs) ⟨eth, 3, ea, eb⟩ := funext (fun y => by rw [lookK_put]; unfold doEvK; rw [if_pos (show (3 : Int) = 3 ∨ (3 : Int) = 5 by simp)])
        have hdo3 : Hid (doVK FK evs = doVK (lookK (putV ea eb cs)) (evs.drop (k + 1))) := Lib.hid (by rw [hdo.out, hs2.out, hgk])
        have hnd3 : Hid ((cs0.map (·.1)).Nodup → ((putV ea eb cs).map (·.1)).Nodup) := Lib.hid (fun h => keys_put (hnd.out h))
        have hlen := putV_len ea eb cs
        have hPT := Lib.hid (rfPut_any h cs ea eb (by omega) w1 hH1.out)
        clear hok hdo hs1 hs2 hev hgp hgk hnd
        go_wp2_with fail
        refine hPT.out.mono ?_
        rintro e w2 ⟨rfl, hH3, hP3⟩
        have hH3 := Lib.hid hH3
        have hP3 := Lib.hid (hW1.out.trans hP3)
        clear hPT
        go_wp2_with fail
        go_roundw
        case rel => exact ⟨k + 1, _, by go_num, by omega, by omega, hok3, hdo3, hnd3, hH3, hP3⟩
        case measure => simp [intOf]; omega
      · skip
        have hgp : getV (putV ea eb cs) = doEv (getV cs) ⟨eth, 5, ea, eb⟩ := funext (fun y => by rw [getV_put]; unfold doEv; rw [if_pos (show (5 : Int) = 3 ∨ (5 : Int) = 5 by simp)])
        have hok3 : Hid (okV F evs = okV (getV (putV ea eb cs)) (evs.drop (k + 1))) := Lib.hid (by rw [hok.out, hs1.out, if_neg (by simp), Bool.true_and, hgp])
        have hgk : lookK (putV ea eb cs) = doEvK (lookK cs) ⟨eth, 5, ea, eb⟩ := funext (fun y => by rw [lookK_put]; unfold doEvK; rw [if_pos (show (5 : Int) = 3 ∨ (5 : Int) = 5 by simp)])
        have hdo3 : Hid (doVK FK evs = doVK (lookK (putV ea eb cs)) (evs.drop (k + 1))) := Lib.hid (by rw [hdo.out, hs2.out, hgk])
        have hnd3 : Hid ((cs0.map (·.1)).Nodup → ((putV ea eb cs).map (·.1)).Nodup) := Lib.hid (fun h => keys_put (hnd.out h))
        have hlen := putV_len ea eb cs
        have hPT := Lib.hid (rfPut_any h cs ea eb (by omega) w1 hH1.out)
        clear hok hdo hs1 hs2 hev hgp hgk hnd
        go_wp2_with fail
        refine hPT.out.mono ?_
        rintro e w2 ⟨rfl, hH3, hP3⟩
        have hH3 := Lib.hid hH3
        have hP3 := Lib.hid (hW1.out.trans hP3)
        clear hPT
        go_wp2_with fail
        go_roundw
        case rel => exact ⟨k + 1, _, by go_num, by omega, by omega, hok3, hdo3, hnd3, hH3, hP3⟩
        case measure => simp [intOf]; omega
      · have hgd : doEv (getV cs) ⟨eth, 6, ea, eb⟩ = fun y => if ea ≤ y ∧ y < ea + eb then 0 else getV cs y := by unfold doEv; rw [if_neg (by simp), if_pos rfl]
        have hok2 : Hid (okV F evs = okV (fun y => if ea ≤ y ∧ y < ea + eb then 0 else getV cs y) (evs.drop (k + 1))) := Lib.hid (by rw [hok.out, hs1.out, if_neg (by simp), Bool.true_and, hgd])
        have hgk : doEvK (lookK cs) ⟨eth, 6, ea, eb⟩ = fun y => if ea ≤ y ∧ y < ea + eb then some 0 else lookK cs y := by unfold doEvK; rw [if_neg (by simp), if_pos rfl]
        have hdo2 : Hid (doVK FK evs = doVK (fun y => if ea ≤ y ∧ y < ea + eb then some 0 else lookK cs y) (evs.drop (k + 1))) := Lib.hid (by rw [hdo.out, hs2.out, hgk])
        obtain ⟨b0, b1, b2⟩ : 0 ≤ eb ∧ eb ≤ 64 ∧ ea + eb ≤ 262144 := by omega
        obtain ⟨a0, a1⟩ : 0 ≤ ea ∧ ea < 262144 := by omega
        have hS2 : Hid (lookK cs = fun y => if ea ≤ y ∧ y < ea + ((0 : Nat) : Int) then some 0 else lookK cs y) := Lib.hid (funext fun y => by rw [if_neg (by omega)])
        have hP1 : Hid (PutF h w1 w1) := Lib.hid (PutF.ofBelow (Below.refl _ _))
        clear hok hdo hs1 hs2 hev hgd hgk
        go_wp2_with fail
        clear hw1 hV d1 d2 d3 e0 e1 e2 e3
        obtain ⟨wo, rfl⟩ : ∃ wo : World, wo = wr := ⟨_, rfl⟩
        go_loopw [7] (fun i wr => ∃ (q : Nat) (cs2 : List (Int × Int)), i = .int .i64 q ∧ (q : Int) ≤ eb ∧ cs2.length ≤ cs.length + q ∧ Hid (lookK cs2 = fun y => if ea ≤ y ∧ y < ea + (q : Int) then some 0 else lookK cs y) ∧ Hid ((cs0.map (·.1)).Nodup → (cs2.map (·.1)).Nodup) ∧ Hid (HeapR wr h cs2) ∧ Hid (PutF h w1 wr)) (fun i _ => eb.toNat - (intOf i).toNat)
        case atStart => exact ⟨0, cs, rfl, by omega, by omega, hS2, hnd, hH1, hP1⟩
        case round =>
          clear hS2 hnd hH1 hP1
          obtain ⟨q, cs2, rfl, hq, hcl2, hG2, hnd, hH2, hP2⟩ := hrel
          obtain ⟨d2, d3⟩ := HDV.out _ hP2.out
          by_cases hqb : (q : Int) < eb
          · have p1 : (0 : Int) ≤ (q : Int) := Int.natCast_nonneg _
            have hwr : IntKind.i64.wrap (ea + (q : Int)) = ea + (q : Int) := by rw [IntKind.wrap_i64]; omega
            have t1 : decide ((q : Int) < eb) = true := by simp; omega
            have hPT := Lib.hid (rfPut_any h cs2 (ea + (q : Int)) 0 (by omega) wr hH2.out)
            have hG3 : Hid (lookK (putV (ea + (q : Int)) 0 cs2) = fun y => if ea ≤ y ∧ y < ea + ((q + 1 : Nat) : Int) then some 0 else lookK cs y) := Lib.hid (funext fun y => by
              rw [lookK_put, hG2.out]
              dsimp only
              by_cases h1 : y = ea + (q : Int)
              · rw [if_pos h1, if_pos (by omega)]
              · rw [if_neg h1]
                by_cases h2 : ea ≤ y ∧ y < ea + (q : Int)
                · rw [if_pos h2, if_pos (by omega)]
                · rw [if_neg h2, if_neg (by omega)])
            have hlen := putV_len (ea + (q : Int)) 0 cs2
            have hnd3 : Hid ((cs0.map (·.1)).Nodup → ((putV (ea + (q : Int)) 0 cs2).map (·.1)).Nodup) := Lib.hid (fun h => keys_put (hnd.out h))
            clear hG2 hH2 hnd
            go_wp2_with fail
            refine hPT.out.mono ?_
            rintro e w2 ⟨rfl, hH3, hP3⟩
            have hH3 := Lib.hid hH3
            have hP3 := Lib.hid (hP2.out.trans hP3)
            clear hPT
            go_wp2_with fail
            go_roundw
            case rel => exact ⟨q + 1, _, by go_num, by omega, by omega, hG3, hnd3, hH3, hP3⟩
            case measure => simp [intOf]; omega
          · have hqe : (q : Int) = eb := by omega
            have t1 : decide ((q : Int) < eb) = false := by simp; omega
            have hgv : getV cs2 = fun y => if ea ≤ y ∧ y < ea + eb then 0 else getV cs y := funext fun y => by
              rw [getV_look, hG2.out, hqe]; dsimp only; rw [getV_look]; split <;> rfl
            have hok3 : Hid (okV F evs = okV (getV cs2) (evs.drop (k + 1))) := Lib.hid (by rw [hok2.out, hgv])
            have hdo3 : Hid (doVK FK evs = doVK (lookK cs2) (evs.drop (k + 1))) := Lib.hid (by rw [hdo2.out, hG2.out, hqe])
            have hE := Lib.hid (hW1.out.trans hP2.out)
            clear hok2 hdo2 hG2 hqe hP2 hgv
            go_wp2_with fail
            go_roundw
            case rel => exact ⟨k + 1, cs2, by go_num, by omega, by omega, hok3, hdo3, hnd, hH2, hE⟩
            case measure => simp [intOf]; omega
    · have hF : Hid (okV F evs = true) := Lib.hid (by rw [hok.out, List.drop_eq_nil_of_le (by omega)]; rfl)
      have hG : Hid (lookK cs = doVK FK evs) := Lib.hid (by rw [hdo.out, List.drop_eq_nil_of_le (by omega)]; rfl)
      have hcl2 : cs.length ≤ N + evs.length * 65 := by omega
      clear hok hdo
      go_wp2_with fail
      go_ret
      exact ⟨by rw [hF.out]; first | done | rfl, fun _ => ⟨cs, hcl2, hH.out, hG.out, hnd.out⟩, HEND.out _ hW.out⟩

theorem rfDone_any (h : Nat) (cs0 : List (Int × Int)) (th kd bg en ck pl : Int) (wt : Bool) (dA : Option Addr) (dc : Nat) (evs : List Ev) (N : Nat) (hN : cs0.length ≤ N) (hNN : N + evs.length * 65 ≤ 68157440) (he : ∀ e ∈ evs, ∃ t, evB t e = true) (w : World) (hH : HeapR w h cs0) (ha : ∀ W, PutF h w W → EvsAt W W.heap.size dA evs) :
    Calls Tryz.prog 37 #[.pointer (some ⟨h, 0, none⟩), .agg #[.int .i64 th, .int .u8 kd, .int .i64 bg, .int .i64 en, .int .i64 ck, .int .i64 pl, .bool wt, .slice dA evs.length dc]] w fun e w' =>
      e = .returned (.bool (okV (getV cs0) evs)) ∧ (okV (getV cs0) evs = true → ∃ cs, cs.length ≤ N + evs.length * 65 ∧ HeapR w' h cs ∧ getV cs = doV (getV cs0) evs) ∧ PutF h w w' :=
  (rfDoneK_any h cs0 th kd bg en ck pl wt dA dc evs N hN hNN he w hH ha).mono fun e w' ⟨h1, h2, h3⟩ => ⟨h1, fun h => by
    obtain ⟨cs, g1, g2, g3, -⟩ := h2 h
    refine ⟨cs, g1, g2, funext fun x => ?_⟩
    rw [getV_look, g3, doVK_doV, show (fun y => (lookK cs0 y).getD 0) = getV cs0 from funext fun y => (getV_look y cs0).symm], h3⟩
end Go.Proofs.YtjaegddnikkibaaGreatDoor
