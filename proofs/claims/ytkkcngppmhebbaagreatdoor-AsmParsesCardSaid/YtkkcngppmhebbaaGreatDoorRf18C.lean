/-
  The document's reader in memory; kinds, operations, registers, walked.
-/
import Derived.Test.YtkkcngppmhebbaaGreatDoorRf18B
import Derived.Test.YtkkcngppmhebbaaGreatDoorRefText
import Derived.Test.YtkkcngppmhebbaaGreatDoorAsmIns0
import Derived.Test.YtkkcngppmhebbaaGreatDoorWordRefP
set_option linter.unusedVariables false
set_option linter.unusedSimpArgs false
namespace Go.Proofs.YtkkcngppmhebbaaGreatDoor
open Go.RowKit

def rgoalCells (g : Nat × Nat × List UInt8) : List Value := [.int .i64 g.1, .string ⟨g.2.2.toArray⟩, .int .i64 g.2.1]
theorem rgflat_snoc (l : List (Nat × Nat × List UInt8)) (g : Nat × Nat × List UInt8) : (l ++ [g]).flatMap rgoalCells = l.flatMap rgoalCells ++ rgoalCells g := by simp
/-- the document's reader: its struct in block RB, its four rows from there on -/
structure RfS (RB : Nat) (ops : List Cmd) (labs : List (List UInt8)) (plcs : List Nat) (gls : List (Nat × Nat × List UInt8)) (vo vl vp vg : Value) (W : World) : Prop where
  blk : W.heap[RB]? = some (.cells #[vo, vl, vp, vg] 86 (0, 0))
  ops : W.ownsRow RB 79 6 vo ops.length (ops.flatMap Cmd.cells)
  lab : W.ownsRow RB 9 1 vl labs.length (labs.map fun x => Value.string ⟨x.toArray⟩)
  plc : W.ownsRow RB 3 1 vp plcs.length (plcs.map fun (x : Nat) => Value.int .i64 (x : Int))
  gls : W.ownsRow RB 92 3 vg gls.length (gls.flatMap rgoalCells)
section
variable {RB : Nat} {ops : List Cmd} {labs : List (List UInt8)} {plcs : List Nat} {gls : List (Nat × Nat × List UInt8)} {vo vl vp vg v' : Value} {W W' w4 w5 : World}
theorem RfS.lt (h : RfS RB ops labs plcs gls vo vl vp vg W) : RB < W.heap.size := (Array.getElem?_eq_some_iff.1 h.blk).1
theorem RfS.below (h : RfS RB ops labs plcs gls vo vl vp vg W) (hb : Below W.heap.size W W') : RfS RB ops labs plcs gls vo vl vp vg W' :=
  ⟨(hb.block RB h.lt).trans h.blk, own_belowI h.ops hb, own_belowI h.lab hb, own_belowI h.plc hb, own_belowI h.gls hb⟩
theorem RfS.appOps (h : RfS RB ops labs plcs gls vo vl vp vg W) (x : Cmd) (hb : Below W.heap.size W w4) (hg : w4.grownBy w5 vo.ownBlock)
    (ho : w5.ownsRow RB 79 6 v' (ops.length + 1) (ops.flatMap Cmd.cells ++ x.cells)) :
    (w5.cell? ⟨RB, 0, none⟩ = some vo ∧ w5.frozen? ⟨RB, 0, none⟩ = false) ∧ (w5.cell? ⟨RB, 0, none⟩ = some vo ∧ w5.cell? ⟨RB, 1, none⟩ = some vl ∧ w5.cell? ⟨RB, 2, none⟩ = some vp ∧ w5.cell? ⟨RB, 3, none⟩ = some vg) ∧
    RfS RB (ops ++ [x]) labs plcs gls v' vl vp vg (w5.setCell ⟨RB, 0, none⟩ v') ∧ Below RB W (w5.setCell ⟨RB, 0, none⟩ v') := by
  have h4 := h.below hb
  have hRB4 := h4.blk
  have kind : ∀ {k : Nat} {cs : Array Value} {T : TypeId} {fz : Nat × Nat}, w4.heap[k]? = some (.cells cs T fz) → T ≠ 79 → vo.ownBlock ≠ some k := fun hk hT e => by
    obtain ⟨-, cs, hcs⟩ := own_kind h4.ops e
    rw [hk] at hcs; injection hcs with hcs; injection hcs with _ hcs; exact hT hcs
  have nRB := kind hRB4 (by decide)
  have hRB5 := (hg.block RB h4.lt (fun e => nRB e.symm)).trans hRB4
  have notRB : ∀ {B e k n : Nat} {v : Value} {xs : List Value}, w5.ownsRow B e k v n xs → e ≠ 86 → v.ownBlock ≠ some RB := fun ho' hT e' => by
    obtain ⟨-, cs, hcs⟩ := own_kind ho' e'
    rw [hRB5] at hcs; injection hcs with hcs; injection hcs with _ hcs; exact hT hcs.symm
  have k1 := own_keptBy h4.lab hg (fun k hk e => own_ne h4.ops h4.lab (by decide) k e hk)
  have k2 := own_keptBy h4.plc hg (fun k hk e => own_ne h4.ops h4.plc (by decide) k e hk)
  have k3 := own_keptBy h4.gls hg (fun k hk e => own_ne h4.ops h4.gls (by decide) k e hk)
  refine ⟨⟨cell_of hRB5 0, frz_of hRB5 0⟩, ⟨cell_of hRB5 0, cell_of hRB5 1, cell_of hRB5 2, cell_of hRB5 3⟩, ⟨?_, ?_, ?_, ?_, ?_⟩, ?_⟩
  · have := blk_set hRB5 0 v'
    simpa using this
  · have := own_set_other ho (p := ⟨RB, 0, none⟩) (notRB ho (by decide)) v'
    simp only [List.length_append, List.length_singleton, flat_snoc]
    exact this
  · exact own_set_other k1 (p := ⟨RB, 0, none⟩) (notRB k1 (by decide)) v'
  · exact own_set_other k2 (p := ⟨RB, 0, none⟩) (notRB k2 (by decide)) v'
  · exact own_set_other k3 (p := ⟨RB, 0, none⟩) (notRB k3 (by decide)) v'
  · have hlt := h.lt
    exact ((hb.mono (Nat.le_of_lt hlt)).grown hg (by have := hb.size; omega) (own_fromS h4.ops)).setCell (p := ⟨RB, 0, none⟩) (Nat.le_refl _) v'
theorem RfS.appLab (h : RfS RB ops labs plcs gls vo vl vp vg W) (x : List UInt8) (hb : Below W.heap.size W w4) (hg : w4.grownBy w5 vl.ownBlock)
    (ho : w5.ownsRow RB 9 1 v' (labs.length + 1) (labs.map (fun x => Value.string ⟨x.toArray⟩) ++ [.string ⟨x.toArray⟩])) :
    (w5.cell? ⟨RB, 1, none⟩ = some vl ∧ w5.frozen? ⟨RB, 1, none⟩ = false) ∧ (w5.cell? ⟨RB, 0, none⟩ = some vo ∧ w5.cell? ⟨RB, 1, none⟩ = some vl ∧ w5.cell? ⟨RB, 2, none⟩ = some vp ∧ w5.cell? ⟨RB, 3, none⟩ = some vg) ∧
    RfS RB ops (labs ++ [x]) plcs gls vo v' vp vg (w5.setCell ⟨RB, 1, none⟩ v') ∧ Below RB W (w5.setCell ⟨RB, 1, none⟩ v') := by
  have h4 := h.below hb
  have hRB4 := h4.blk
  have kind : ∀ {k : Nat} {cs : Array Value} {T : TypeId} {fz : Nat × Nat}, w4.heap[k]? = some (.cells cs T fz) → T ≠ 9 → vl.ownBlock ≠ some k := fun hk hT e => by
    obtain ⟨-, cs, hcs⟩ := own_kind h4.lab e
    rw [hk] at hcs; injection hcs with hcs; injection hcs with _ hcs; exact hT hcs
  have nRB := kind hRB4 (by decide)
  have hRB5 := (hg.block RB h4.lt (fun e => nRB e.symm)).trans hRB4
  have notRB : ∀ {B e k n : Nat} {v : Value} {xs : List Value}, w5.ownsRow B e k v n xs → e ≠ 86 → v.ownBlock ≠ some RB := fun ho' hT e' => by
    obtain ⟨-, cs, hcs⟩ := own_kind ho' e'
    rw [hRB5] at hcs; injection hcs with hcs; injection hcs with _ hcs; exact hT hcs.symm
  have k0 := own_keptBy h4.ops hg (fun k hk e => own_ne h4.lab h4.ops (by decide) k e hk)
  have k2 := own_keptBy h4.plc hg (fun k hk e => own_ne h4.lab h4.plc (by decide) k e hk)
  have k3 := own_keptBy h4.gls hg (fun k hk e => own_ne h4.lab h4.gls (by decide) k e hk)
  refine ⟨⟨cell_of hRB5 1, frz_of hRB5 1⟩, ⟨cell_of hRB5 0, cell_of hRB5 1, cell_of hRB5 2, cell_of hRB5 3⟩, ⟨?_, ?_, ?_, ?_, ?_⟩, ?_⟩
  · have := blk_set hRB5 1 v'
    simpa using this
  · exact own_set_other k0 (p := ⟨RB, 1, none⟩) (notRB k0 (by decide)) v'
  · have := own_set_other ho (p := ⟨RB, 1, none⟩) (notRB ho (by decide)) v'
    simp only [List.length_append, List.length_singleton, List.map_append, List.map_cons, List.map_nil]
    exact this
  · exact own_set_other k2 (p := ⟨RB, 1, none⟩) (notRB k2 (by decide)) v'
  · exact own_set_other k3 (p := ⟨RB, 1, none⟩) (notRB k3 (by decide)) v'
  · have hlt := h.lt
    exact ((hb.mono (Nat.le_of_lt hlt)).grown hg (by have := hb.size; omega) (own_fromS h4.lab)).setCell (p := ⟨RB, 1, none⟩) (Nat.le_refl _) v'
theorem RfS.appPlc (h : RfS RB ops labs plcs gls vo vl vp vg W) (x : Nat) (hb : Below W.heap.size W w4) (hg : w4.grownBy w5 vp.ownBlock)
    (ho : w5.ownsRow RB 3 1 v' (plcs.length + 1) (plcs.map (fun (x : Nat) => Value.int .i64 (x : Int)) ++ [.int .i64 (x : Int)])) :
    (w5.cell? ⟨RB, 2, none⟩ = some vp ∧ w5.frozen? ⟨RB, 2, none⟩ = false) ∧ (w5.cell? ⟨RB, 0, none⟩ = some vo ∧ w5.cell? ⟨RB, 1, none⟩ = some vl ∧ w5.cell? ⟨RB, 2, none⟩ = some vp ∧ w5.cell? ⟨RB, 3, none⟩ = some vg) ∧
    RfS RB ops labs (plcs ++ [x]) gls vo vl v' vg (w5.setCell ⟨RB, 2, none⟩ v') ∧ Below RB W (w5.setCell ⟨RB, 2, none⟩ v') := by
  have h4 := h.below hb
  have hRB4 := h4.blk
  have kind : ∀ {k : Nat} {cs : Array Value} {T : TypeId} {fz : Nat × Nat}, w4.heap[k]? = some (.cells cs T fz) → T ≠ 3 → vp.ownBlock ≠ some k := fun hk hT e => by
    obtain ⟨-, cs, hcs⟩ := own_kind h4.plc e
    rw [hk] at hcs; injection hcs with hcs; injection hcs with _ hcs; exact hT hcs
  have nRB := kind hRB4 (by decide)
  have hRB5 := (hg.block RB h4.lt (fun e => nRB e.symm)).trans hRB4
  have notRB : ∀ {B e k n : Nat} {v : Value} {xs : List Value}, w5.ownsRow B e k v n xs → e ≠ 86 → v.ownBlock ≠ some RB := fun ho' hT e' => by
    obtain ⟨-, cs, hcs⟩ := own_kind ho' e'
    rw [hRB5] at hcs; injection hcs with hcs; injection hcs with _ hcs; exact hT hcs.symm
  have k0 := own_keptBy h4.ops hg (fun k hk e => own_ne h4.plc h4.ops (by decide) k e hk)
  have k1 := own_keptBy h4.lab hg (fun k hk e => own_ne h4.plc h4.lab (by decide) k e hk)
  have k3 := own_keptBy h4.gls hg (fun k hk e => own_ne h4.plc h4.gls (by decide) k e hk)
  refine ⟨⟨cell_of hRB5 2, frz_of hRB5 2⟩, ⟨cell_of hRB5 0, cell_of hRB5 1, cell_of hRB5 2, cell_of hRB5 3⟩, ⟨?_, ?_, ?_, ?_, ?_⟩, ?_⟩
  · have := blk_set hRB5 2 v'
    simpa using this
  · exact own_set_other k0 (p := ⟨RB, 2, none⟩) (notRB k0 (by decide)) v'
  · exact own_set_other k1 (p := ⟨RB, 2, none⟩) (notRB k1 (by decide)) v'
  · have := own_set_other ho (p := ⟨RB, 2, none⟩) (notRB ho (by decide)) v'
    simp only [List.length_append, List.length_singleton, List.map_append, List.map_cons, List.map_nil]
    exact this
  · exact own_set_other k3 (p := ⟨RB, 2, none⟩) (notRB k3 (by decide)) v'
  · have hlt := h.lt
    exact ((hb.mono (Nat.le_of_lt hlt)).grown hg (by have := hb.size; omega) (own_fromS h4.plc)).setCell (p := ⟨RB, 2, none⟩) (Nat.le_refl _) v'
theorem RfS.appGls (h : RfS RB ops labs plcs gls vo vl vp vg W) (x : Nat × Nat × List UInt8) (hb : Below W.heap.size W w4) (hg : w4.grownBy w5 vg.ownBlock)
    (ho : w5.ownsRow RB 92 3 v' (gls.length + 1) (gls.flatMap rgoalCells ++ rgoalCells x)) :
    (w5.cell? ⟨RB, 3, none⟩ = some vg ∧ w5.frozen? ⟨RB, 3, none⟩ = false) ∧ (w5.cell? ⟨RB, 0, none⟩ = some vo ∧ w5.cell? ⟨RB, 1, none⟩ = some vl ∧ w5.cell? ⟨RB, 2, none⟩ = some vp ∧ w5.cell? ⟨RB, 3, none⟩ = some vg) ∧
    RfS RB ops labs plcs (gls ++ [x]) vo vl vp v' (w5.setCell ⟨RB, 3, none⟩ v') ∧ Below RB W (w5.setCell ⟨RB, 3, none⟩ v') := by
  have h4 := h.below hb
  have hRB4 := h4.blk
  have kind : ∀ {k : Nat} {cs : Array Value} {T : TypeId} {fz : Nat × Nat}, w4.heap[k]? = some (.cells cs T fz) → T ≠ 92 → vg.ownBlock ≠ some k := fun hk hT e => by
    obtain ⟨-, cs, hcs⟩ := own_kind h4.gls e
    rw [hk] at hcs; injection hcs with hcs; injection hcs with _ hcs; exact hT hcs
  have nRB := kind hRB4 (by decide)
  have hRB5 := (hg.block RB h4.lt (fun e => nRB e.symm)).trans hRB4
  have notRB : ∀ {B e k n : Nat} {v : Value} {xs : List Value}, w5.ownsRow B e k v n xs → e ≠ 86 → v.ownBlock ≠ some RB := fun ho' hT e' => by
    obtain ⟨-, cs, hcs⟩ := own_kind ho' e'
    rw [hRB5] at hcs; injection hcs with hcs; injection hcs with _ hcs; exact hT hcs.symm
  have k0 := own_keptBy h4.ops hg (fun k hk e => own_ne h4.gls h4.ops (by decide) k e hk)
  have k1 := own_keptBy h4.lab hg (fun k hk e => own_ne h4.gls h4.lab (by decide) k e hk)
  have k2 := own_keptBy h4.plc hg (fun k hk e => own_ne h4.gls h4.plc (by decide) k e hk)
  refine ⟨⟨cell_of hRB5 3, frz_of hRB5 3⟩, ⟨cell_of hRB5 0, cell_of hRB5 1, cell_of hRB5 2, cell_of hRB5 3⟩, ⟨?_, ?_, ?_, ?_, ?_⟩, ?_⟩
  · have := blk_set hRB5 3 v'
    simpa using this
  · exact own_set_other k0 (p := ⟨RB, 3, none⟩) (notRB k0 (by decide)) v'
  · exact own_set_other k1 (p := ⟨RB, 3, none⟩) (notRB k1 (by decide)) v'
  · exact own_set_other k2 (p := ⟨RB, 3, none⟩) (notRB k2 (by decide)) v'
  · have := own_set_other ho (p := ⟨RB, 3, none⟩) (notRB ho (by decide)) v'
    simp only [List.length_append, List.length_singleton, rgflat_snoc]
    exact this
  · have hlt := h.lt
    exact ((hb.mono (Nat.le_of_lt hlt)).grown hg (by have := hb.size; omega) (own_fromS h4.gls)).setCell (p := ⟨RB, 3, none⟩) (Nat.le_refl _) v'
end
theorem calc_cell (c : Nat) (h1 : 1 ≤ c) (h2 : c ≤ 14) : calcCells[c - 1]? = some (.string ⟨(calcW c).toArray⟩) := by
  rw [show c - 1 = ((c : Int) - 1).toNat by omega]
  exact calc_at c (by omega) (by omega)

set_option maxHeartbeats 2000000 in
set_option maxRecDepth 100000 in
theorem rkind_any (l : List UInt8) (w : World) :
    Calls Tryz.prog 112 #[.string ⟨l.toArray⟩] w fun e w' => e = .returned (.int .u8 (kindOf l)) ∧ Below w.heap.size w w' := by
  obtain ⟨V, hV⟩ : ∃ V, kindOf l = V := ⟨_, rfl⟩
  have HV := Lib.hid hV
  rw [hV]
  clear hV
  have CN := Lib.hid (rnames_any w)
  go_enter Tryz.func112, Tryz.ntmps112
  go_wp2_with fail
  refine CN.out.mono ?_
  rintro e w1 ⟨rfl, hw1⟩
  have hb1 : Below w.heap.size w w1 := by rw [hw1]; exact (Below.refl _ _).alloc (Nat.le_refl _) _
  have HN : Hid (w1.heap[w.heap.size]? = some (.cells kindCells.toArray 9 (0, 0))) := Lib.hid (by rw [hw1]; exact heap_alloc_new w _)
  have HB1 := Lib.hid hb1
  clear CN hw1 hb1
  obtain ⟨NB, hNB⟩ : ∃ NB, w.heap.size = NB := ⟨_, rfl⟩
  rw [hNB] at HN
  simp only [hNB]
  clear hNB
  go_wp2_with fail
  go_loopw [4] (fun ii wr => ∃ j : Nat, ii = .int .i64 j ∧ j ≤ 15 ∧ Hid (∀ k, k < j → V ≠ ((k + 1 : Nat) : Int)) ∧ wr = w1) (fun ii _ => 15 - (intOf ii).toNat)
  case atStart => exact ⟨0, rfl, Nat.zero_le _, Lib.hid (fun k hk => absurd hk (Nat.not_lt_zero k)), rfl⟩
  case round =>
    obtain ⟨j, rfl, hj, hE, rfl⟩ := hrel
    by_cases hlt : j < 15
    · have n0 := cell_of HN.out j
      rw [List.getElem?_toArray, show kindCells[j]? = kindCells[(j + 1) - 1]? from rfl, kind_at (j + 1) (by omega) (by omega)] at n0
      have hif := Lib.hid (kindOf_iff l j hlt)
      have hw1 : IntKind.u8.wrap (j : Int) = (j : Int) := by rw [IntKind.wrap_u8]; omega
      have hw2 : IntKind.u8.wrap ((j : Int) + 1) = (j : Int) + 1 := by rw [IntKind.wrap_u8]; omega
      have p3 : (j : Int) < 15 := by omega
      have p4 : (0 : Int) ≤ (j : Int) := Int.natCast_nonneg _
      obtain ⟨kw, hkw⟩ : ∃ kw, kindW ((j + 1 : Nat) : Int) = kw := ⟨_, rfl⟩
      rw [hkw] at n0 hif
      clear hkw
      by_cases heq : kw = l
      · have t1 : (kw == l) = true := by simpa using heq
        have F : Hid ((j : Int) + 1 = V) := Lib.hid (by rw [← HV.out, hif.out.1 heq]; rfl)
        clear heq hif hE
        go_wp2_with fail
        go_ret
        exact ⟨by rw [F.out]; rfl, HB1.out⟩
      · have t1 : (kw == l) = false := by simpa using heq
        have hE2 : Hid (∀ k, k < j + 1 → V ≠ ((k + 1 : Nat) : Int)) := Lib.hid fun k hk => by
          rcases Nat.lt_or_ge k j with h | h
          · exact hE.out k h
          · obtain rfl : k = j := by omega
            exact fun e => heq (hif.out.2 (by rw [HV.out, e]))
        clear heq hif hE hw1 hw2
        go_wp2_with fail
        go_roundw
        case rel => exact ⟨j + 1, by go_num, by omega, hE2, by first | rfl | trivial⟩
        case measure => simp [intOf]; omega
    · obtain rfl : j = 15 := by omega
      have F : Hid ((0 : Int) = V) := Lib.hid (by
        rcases kindOf_cases l with h | ⟨i, hi, h⟩
        · rw [← HV.out, h]
        · exact absurd (HV.out.symm.trans h) (hE.out i hi))
      clear hE hlt
      go_wp2_with fail
      go_ret
      exact ⟨by rw [F.out]; rfl, HB1.out⟩

set_option maxHeartbeats 2000000 in
set_option maxRecDepth 100000 in
theorem rcalcOf_any (l : List UInt8) (w : World) :
    Calls Tryz.prog 114 #[.string ⟨l.toArray⟩] w fun e w' => e = .returned (.int .u8 (calcOf l)) ∧ Below w.heap.size w w' := by
  obtain ⟨V, hV⟩ : ∃ V, calcOf l = V := ⟨_, rfl⟩
  have HV := Lib.hid hV
  rw [hV]
  clear hV
  have CN := Lib.hid (rcalcs_any w)
  go_enter Tryz.func114, Tryz.ntmps114
  go_wp2_with fail
  refine CN.out.mono ?_
  rintro e w1 ⟨rfl, hw1⟩
  have hb1 : Below w.heap.size w w1 := by rw [hw1]; exact (Below.refl _ _).alloc (Nat.le_refl _) _
  have HN : Hid (w1.heap[w.heap.size]? = some (.cells calcCells.toArray 9 (0, 0))) := Lib.hid (by rw [hw1]; exact heap_alloc_new w _)
  have HB1 := Lib.hid hb1
  clear CN hw1 hb1
  obtain ⟨NB, hNB⟩ : ∃ NB, w.heap.size = NB := ⟨_, rfl⟩
  rw [hNB] at HN
  simp only [hNB]
  clear hNB
  go_wp2_with fail
  go_loopw [4] (fun ii wr => ∃ j : Nat, ii = .int .i64 j ∧ j ≤ 14 ∧ Hid (∀ k, k < j → V ≠ ((k + 1 : Nat) : Int)) ∧ wr = w1) (fun ii _ => 14 - (intOf ii).toNat)
  case atStart => exact ⟨0, rfl, Nat.zero_le _, Lib.hid (fun k hk => absurd hk (Nat.not_lt_zero k)), rfl⟩
  case round =>
    obtain ⟨j, rfl, hj, hE, rfl⟩ := hrel
    by_cases hlt : j < 14
    · have n0 := cell_of HN.out j
      rw [List.getElem?_toArray, show calcCells[j]? = calcCells[(j + 1) - 1]? from rfl, calc_cell (j + 1) (by omega) (by omega)] at n0
      have hif := Lib.hid (calcOf_iff l j hlt)
      have hw1 : IntKind.u8.wrap (j : Int) = (j : Int) := by rw [IntKind.wrap_u8]; omega
      have hw2 : IntKind.u8.wrap ((j : Int) + 1) = (j : Int) + 1 := by rw [IntKind.wrap_u8]; omega
      have p3 : (j : Int) < 14 := by omega
      have p4 : (0 : Int) ≤ (j : Int) := Int.natCast_nonneg _
      obtain ⟨kw, hkw⟩ : ∃ kw, calcW ((j + 1 : Nat) : Int) = kw := ⟨_, rfl⟩
      rw [hkw] at n0 hif
      clear hkw
      by_cases heq : kw = l
      · have t1 : (kw == l) = true := by simpa using heq
        have F : Hid ((j : Int) + 1 = V) := Lib.hid (by rw [← HV.out, hif.out.1 heq]; rfl)
        clear heq hif hE
        go_wp2_with fail
        go_ret
        exact ⟨by rw [F.out]; rfl, HB1.out⟩
      · have t1 : (kw == l) = false := by simpa using heq
        have hE2 : Hid (∀ k, k < j + 1 → V ≠ ((k + 1 : Nat) : Int)) := Lib.hid fun k hk => by
          rcases Nat.lt_or_ge k j with h | h
          · exact hE.out k h
          · obtain rfl : k = j := by omega
            exact fun e => heq (hif.out.2 (by rw [HV.out, e]))
        clear heq hif hE hw1 hw2
        go_wp2_with fail
        go_roundw
        case rel => exact ⟨j + 1, by go_num, by omega, hE2, by first | rfl | trivial⟩
        case measure => simp [intOf]; omega
    · obtain rfl : j = 14 := by omega
      have F : Hid ((0 : Int) = V) := Lib.hid (by
        rcases calcOf_cases l with h | ⟨i, hi, h⟩
        · rw [← HV.out, h]
        · exact absurd (HV.out.symm.trans h) (hE.out i hi))
      clear hE hlt
      go_wp2_with fail
      go_ret
      exact ⟨by rw [F.out]; rfl, HB1.out⟩

/-- the number of a register's word, of however many digits -/
def rregV : List UInt8 → Nat × Bool
  | 114 :: x :: r => digitsV (x :: r) 999999999
  | _ => (0, false)
theorem rreg_regOf (l : List UInt8) : (if (rregV l).2 = true ∧ (rregV l).1 < 8 then some (((rregV l).1 : Nat) : Int) else none) = regOf l := by
  have key : ∀ n, n < 8 → Lib.decDigits n = [UInt8.ofNat (48 + n)] := fun n hn => decDigits_small (by omega)
  by_cases h : ∃ v, regOf l = some v
  · obtain ⟨v, hv⟩ := h
    have hv2 := hv
    unfold regOf at hv2
    split at hv2
    · next r x =>
      split at hv2
      · next hc =>
        obtain ⟨rfl, h1, h2⟩ := hc
        injection hv2 with hv2
        have hd := digitsV_dec (x.toNat - 48) 999999999 (by omega) (by decide) (by decide)
        rw [key (x.toNat - 48) (by omega), show UInt8.ofNat (48 + (x.toNat - 48)) = x by rw [show 48 + (x.toNat - 48) = x.toNat by omega]; exact UInt8.ofNat_toNat] at hd
        have e : rregV [114, x] = (x.toNat - 48, true) := hd
        rw [e, if_pos ⟨rfl, by dsimp only; omega⟩, hv]
        dsimp only
        congr 1
        omega
      · cases hv2
    · cases hv2
  · have hn : regOf l = none := by
      cases hr : regOf l with
      | none => rfl
      | some v => exact absurd ⟨v, hr⟩ h
    rw [hn]
    apply if_neg
    rintro ⟨h1, h2⟩
    cases l with
    | nil => cases h1
    | cons y t =>
      cases t with
      | nil =>
        have e0 : rregV [y] = (0, false) := by unfold rregV; split <;> simp_all
        rw [e0] at h1; cases h1
      | cons x r =>
        by_cases hy : y = 114
        · subst hy
          have h1' : (digitsV (x :: r) 999999999).2 = true := h1
          have h2' : (digitsV (x :: r) 999999999).1 < 8 := h2
          obtain ⟨n, hd⟩ : ∃ n, digitsV (x :: r) 999999999 = (n, true) := ⟨_, by rw [← h1']⟩
          rw [hd] at h2'
          obtain ⟨e, -⟩ := digitsV_ok (by decide) hd
          rw [key n h2'] at e
          injection e with e1 e2
          subst e2
          have hx : x.toNat = 48 + n := by rw [e1]; exact digit_toNat (by omega)
          have : regOf [114, x] = some ((x.toNat : Int) - 48) := by
            unfold regOf
            dsimp only
            rw [if_pos ⟨rfl, by omega, by omega⟩]
          rw [this] at hn
          cases hn
        · have e0 : rregV (y :: x :: r) = (0, false) := by unfold rregV; split <;> simp_all
          rw [e0] at h1; cases h1

set_option maxHeartbeats 2000000 in
set_option maxRecDepth 100000 in
theorem rregister_any (l : List UInt8) (hl : l.length ≤ 140737488355328) (w : World) :
    Calls Tryz.prog 115 #[.string ⟨l.toArray⟩] w fun e w' => e = .returned (.tuple #[.int .i64 ((rregV l).1 : Int), .bool (rregV l).2]) ∧ w = w' := by
  obtain ⟨n, b, hV⟩ : ∃ n b, rregV l = (n, b) := ⟨(rregV l).1, (rregV l).2, rfl⟩
  rw [hV]
  have HV := Lib.hid hV
  have hsz : (⟨l.toArray⟩ : ByteArray).size = l.length := by simp [ByteArray.size]
  clear hV
  by_cases h2 : l.length < 2
  · have F : Hid ((0, false) = (n, b)) := Lib.hid (by
      rw [← HV.out]
      match l, h2 with
      | [], _ => rfl
      | [x], _ => unfold rregV; split <;> simp_all)
    obtain ⟨rfl, rfl⟩ : 0 = n ∧ false = b := by have h := F.out; injection h with h1 h2; exact ⟨h1, h2⟩
    have q1 : (l.length : Int) < 2 := by omega
    clear F HV
    go_enter Tryz.func115, Tryz.ntmps115
    go_wp2_with fail
    refine bodyPost_ret (v := .tuple #[.int .i64 0, .bool false]) (by simp [results, Tryz.results115, go_sem]) rfl ?_
    exact ⟨rfl, rfl⟩
  · obtain ⟨y, x, r, rfl⟩ : ∃ y x r, l = y :: x :: r := by
      match l, h2 with
      | y :: x :: r, _ => exact ⟨y, x, r, rfl⟩
      | [], h => exact absurd (by simp) h
      | [x], h => exact absurd (by simp) h
    have hget0 : ∀ h, ((⟨(y :: x :: r).toArray⟩ : ByteArray)[0]'h) = y := fun h => rfl
    have hx := extract_drop (y :: x :: r) 1
    rw [List.drop_succ_cons, List.drop_zero] at hx
    have HD : Hid (y = 114 → digitsV (x :: r) 999999999 = (n, b)) := Lib.hid (fun h => by subst h; exact HV.out)
    have HD0 : Hid (y ≠ 114 → ((0 : Nat), false) = (n, b)) := Lib.hid (fun h => by rw [← HV.out]; unfold rregV; split <;> simp_all)
    have CD := Lib.hid (fun W => digits_any (x :: r) (by simp at hl ⊢; omega) 999999999 (by decide) (by decide) W)
    obtain ⟨l, hlx⟩ : ∃ l, y :: x :: r = l := ⟨_, rfl⟩
    rw [hlx] at hsz hx hget0 h2 hl ⊢
    have q1 : ¬ (l.length : Int) < 2 := by omega
    have q2 : 0 < (⟨l.toArray⟩ : ByteArray).size := by rw [hsz]; omega
    have q3 : (1 : Int) ≤ (l.length : Int) := by omega
    clear HV hlx h2
    by_cases hy : y = 114
    · have t1 : ((y.toNat : Int) != 114) = false := by rw [hy]; rfl
      rw [show (999999999 : Int).toNat = 999999999 from rfl, HD.out hy] at CD
      have hn : (n : Int) ≤ 999999999 := by
        cases b with
        | true => have := (digitsV_ok (by decide) (HD.out hy)).2; omega
        | false =>
          have := digitsV_false (show (digitsV (x :: r) 999999999).2 = false by rw [HD.out hy])
          rw [HD.out hy] at this
          injection this with this _
          omega
      clear HD HD0 hy
      go_enter Tryz.func115, Tryz.ntmps115
      go_wp2_with (go_at_call 186; refine (CD.out _).mono ?_; rintro e w1 ⟨rfl, rfl⟩)
      have hw : IntKind.i64.wrap (n : Int) = (n : Int) := by rw [IntKind.wrap_i64]; omega
      go_wp2_with fail
      refine bodyPost_ret (v := .tuple #[.int .i64 (n : Int), .bool b]) (by simp [results, Tryz.results115, go_sem, hw]) rfl ?_
      exact ⟨rfl, rfl⟩
    · have t1 : ((y.toNat : Int) != 114) = true := by simp only [bne_iff_ne]; intro e; exact hy (UInt8.toNat_inj.1 (by exact_mod_cast e))
      obtain ⟨rfl, rfl⟩ : 0 = n ∧ false = b := by have h := HD0.out hy; injection h with h1 h2; exact ⟨h1, h2⟩
      clear HD HD0 CD hy
      go_enter Tryz.func115, Tryz.ntmps115
      go_wp2_with fail
      refine bodyPost_ret (v := .tuple #[.int .i64 0, .bool false]) (by simp [results, Tryz.results115, go_sem]) rfl ?_
      exact ⟨rfl, rfl⟩
end Go.Proofs.YtkkcngppmhebbaaGreatDoor
