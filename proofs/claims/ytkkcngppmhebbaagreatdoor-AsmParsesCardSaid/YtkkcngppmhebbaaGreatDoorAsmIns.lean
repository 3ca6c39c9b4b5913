/-
  asm's reader: an instruction of words, walked.
-/
import Derived.Test.YtkkcngppmhebbaaGreatDoorAsmIns0
import Derived.Test.YtkkcngppmhebbaaGreatDoorIsaCheck
import Derived.Test.YtkkcngppmhebbaaGreatDoorAsmBuild
import Derived.Test.YtkkcngppmhebbaaGreatDoorRegion
import Derived.Deep.QuietTactic
import Derived.BigQuiet
import Derived.Lib.OthersKept
set_option linter.unusedVariables false
set_option linter.unusedSimpArgs false
namespace Go.Proofs.YtkkcngppmhebbaaGreatDoor
open Go.RowKit

/-- what the append of an instruction reads -/
abbrev ApS (RB Xo : Nat) (vl : Value) (o : Cmd) (W : World) : Prop :=
  W.cell? ⟨RB, 0, none⟩ = some vl ∧ W.cell? ⟨Xo, 0, none⟩ = some (.int .u8 o.k) ∧ W.cell? ⟨Xo, 1, none⟩ = some (.int .u8 o.c) ∧ W.cell? ⟨Xo, 2, none⟩ = some (.int .u8 o.a) ∧ W.cell? ⟨Xo, 3, none⟩ = some (.int .u8 o.b) ∧ W.cell? ⟨Xo, 4, none⟩ = some (.int .u8 o.d) ∧ W.cell? ⟨Xo, 5, none⟩ = some (.int .i64 o.n)
theorem aps_of {RB Xo : Nat} {vl : Value} {o : Cmd} {W : World} (h : W.cell? ⟨RB, 0, none⟩ = some vl) (ho : W.heap[Xo]? = some (.cells #[.int .u8 o.k, .int .u8 o.c, .int .u8 o.a, .int .u8 o.b, .int .u8 o.d, .int .i64 o.n] 79 (0, 0))) : ApS RB Xo vl o W :=
  ⟨h, cell_of ho 0, cell_of ho 1, cell_of ho 2, cell_of ho 3, cell_of ho 4, cell_of ho 5⟩
theorem InSt.aps {H RB MB Xo Xp Xi : Nat} {w : World} {r : Rd} {line : Nat} {ps : List UInt8} {pos : Nat} {o : Cmd} {g : List (List UInt8)} {vl vg : Value} {W : World} (h : InSt H RB MB Xo Xp Xi w r line ps pos o g vl vg W) : ApS RB Xo vl o W := aps_of (cell_of h.rd.blk 0) h.o
/-- what the append of a jump reads -/
abbrev GoS (RB : Nat) (vl vg : Value) (W : World) : Prop := W.cell? ⟨RB, 0, none⟩ = some vl ∧ W.cell? ⟨RB, 2, none⟩ = some vg
theorem InSt.gos {H RB MB Xo Xp Xi : Nat} {w : World} {r : Rd} {line : Nat} {ps : List UInt8} {pos : Nat} {o : Cmd} {g : List (List UInt8)} {vl vg : Value} {W : World} (h : InSt H RB MB Xo Xp Xi w r line ps pos o g vl vg W) : GoS RB vl vg W := ⟨cell_of h.rd.blk 0, cell_of h.rd.blk 2⟩
theorem RdIs.of {H RB MB : Nat} {r : Rd} {vl vg : Value} {W : World} (h : RdAt H RB MB r vl vg W) : RdIs H RB MB r W := ⟨vl, vg, h⟩
/-- what the search for the shape holds: the found shape's box, the row of shapes, and what was below -/
structure ShSt (X1 S1 : Nat) (w : World) (k : Int) (wd : List UInt8) (W : World) : Prop where
  s : W.heap[X1]? = some (.cells #[.int .u8 k, .string ⟨wd.toArray⟩, .string ⟨(partsV k).toArray⟩] 103 (0, 0))
  r : W.heap[S1]? = some (.cells shapeRow.toArray 103 (0, 0))
  bel : Below w.heap.size w W

theorem wrap_one {n : Nat} (h : n ≤ 4) : wrap64 (1 + (n : Int)) = 1 + (n : Int) := by unfold wrap64; omega
theorem len_same {a b : Nat} (h : a = b) : (((a : Int) + 1) != (1 + (b : Int))) = false := by subst h; simp [bne, Int.add_comm]
theorem len_other {a b : Nat} (h : a ≠ b) : (((a : Int) + 1) != (1 + (b : Int))) = true := bne_iff_ne.2 fun e => h (by omega)
theorem partsV_form {k : Int} {f : Form} (h : formV k = some f) : (∀ p ∈ partsV k, p.toNat < 128) ∧ 0 + (partsV k).count 114 ≤ 3 := by
  rcases formV_cases k with (rfl | rfl | rfl | rfl | rfl | rfl | rfl | rfl | rfl | rfl | rfl | rfl | rfl | rfl | rfl) | ⟨h0, -⟩
  all_goals first | (rw [h0] at h; cases h; done) | exact ⟨by decide, by decide⟩
theorem partsV_99 {k : Int} {f : Form} (h : formV k = some f) : (partsV k).count 99 ≤ 1 := by
  rcases formV_cases k with (rfl | rfl | rfl | rfl | rfl | rfl | rfl | rfl | rfl | rfl | rfl | rfl | rfl | rfl | rfl) | ⟨h0, -⟩
  all_goals first | (rw [h0] at h; cases h; done) | decide
theorem calc_at2 (c : Nat) (h1 : 1 ≤ c) (h2 : c ≤ 14) : calcCells[c - 1]? = some (.string ⟨(calcW c).toArray⟩) := by
  rw [show c - 1 = ((c : Int) - 1).toNat by omega]
  exact calc_at c (by omega) (by omega)
theorem calc_wrap {j : Nat} (h : j < 14) : IntKind.u8.wrap (j : Int) = (j : Int) ∧ IntKind.u8.wrap (1 + (j : Int)) = ((j + 1 : Nat) : Int) := by
  rw [IntKind.wrap_u8, IntKind.wrap_u8]; omega
theorem words_at {H Wb n c : Nat} {ws : List (List UInt8)} {W : World} (h : W.ownsRow H 9 1 (.slice (some ⟨Wb, 0, none⟩) n c) n (ws.map fun l => Value.string ⟨l.toArray⟩)) (i : Nat) (x : List UInt8) (hx : ws[i]? = some x) : W.cell? ⟨Wb, i, none⟩ = some (.string ⟨x.toArray⟩) := by
  have := h.cells (g := Wb) rfl i (.string ⟨x.toArray⟩) (by rw [List.getElem?_map, hx]; rfl)
  have hadd : (⟨Wb, 0, none⟩ : Addr).add i = ⟨Wb, 0 + i, none⟩ := by unfold Addr.add; split <;> simp_all
  rw [hadd, Nat.zero_add] at this
  exact this
theorem words_addr {H n c : Nat} {A : Option Addr} {xs : List Value} {W : World} (h : W.ownsRow H 9 1 (.slice A (n + 1) c) (n + 1) xs) : ∃ Wb, A = some ⟨Wb, 0, none⟩ := by
  rcases h.2 with ⟨hv, hn⟩ | ⟨g, cap, cur, hv, -⟩
  · omega
  · injection hv with h1 _ _
    exact ⟨g, h1⟩
theorem sh_store {X1 S1 : Nat} {w W : World} {k k2 : Int} {wd : List UInt8} (h : ShSt X1 S1 w k wd W) (hX : w.heap.size = X1) (hne : S1 ≠ X1) (wd2 : List UInt8) : ShSt X1 S1 w k2 wd2 (((W.setCell ⟨X1, 0, none⟩ (.int .u8 k2)).setCell ⟨X1, 1, none⟩ (.string ⟨wd2.toArray⟩)).setCell ⟨X1, 2, none⟩ (.string ⟨(partsV k2).toArray⟩)) := by
  refine ⟨?_, ?_, ?_⟩
  · have := blk_set (blk_set (blk_set h.s 0 (.int .u8 k2)) 1 (.string ⟨wd2.toArray⟩)) 2 (.string ⟨(partsV k2).toArray⟩)
    simpa using this
  · exact blk_set_ne (blk_set_ne (blk_set_ne h.r hne _ _) hne _ _) hne _ _
  · exact ((h.bel.setCell (p := ⟨X1, 0, none⟩) (by rw [hX]; exact Nat.le_refl _) _).setCell (p := ⟨X1, 1, none⟩) (by rw [hX]; exact Nat.le_refl _) _).setCell (p := ⟨X1, 2, none⟩) (by rw [hX]; exact Nat.le_refl _) _
theorem ShSt.keep {X1 S1 : Nat} {w W W' : World} {k : Int} {wd : List UInt8} (h : ShSt X1 S1 w k wd W) (hb : Below W.heap.size W W') : ShSt X1 S1 w k wd W' :=
  ⟨blk_below h.s hb, blk_below h.r hb, h.bel.trans (hb.mono h.bel.size)⟩

set_option maxHeartbeats 16000000 in
set_option maxRecDepth 100000 in
theorem ins_any (H RB MB : Nat) (r : Rd) (w0 : List UInt8) (rest : List (List UInt8)) (A : Option Addr) (c : Nat) (line : Nat) (w : World) (G : ∀ W, Below H w W → AGlobs W) (hR : RdIs H RB MB r w) (hH : H ≤ RB)
    (hW : w.ownsRow H 9 1 (.slice A (rest.length + 1) c) (rest.length + 1) ((w0 :: rest).map fun l => Value.string ⟨l.toArray⟩)) (hlen : ∀ x ∈ w0 :: rest, x.length ≤ 65536) (hrl : rest.length ≤ 65536)
    (hops : r.ops.length ≤ 100000) (hgs : r.goals.length ≤ 100000) (hline : line ≤ 100000) :
    Calls Tryz.prog 15 #[.pointer (some ⟨RB, 0, none⟩), .slice A (rest.length + 1) c, .int .i64 line] w fun e w' =>
      (match insV r w0 rest line with
        | some r' => e = .returned (.bool true) ∧ RdIs H RB MB r' w'
        | none => e = .returned (.bool false)) ∧ FrB H okT w w' := by
  have HNum : Hid (H ≤ RB ∧ rest.length ≤ 65536 ∧ r.ops.length ≤ 100000 ∧ r.goals.length ≤ 100000 ∧ line ≤ 100000) := Lib.hid ⟨hH, hrl, hops, hgs, hline⟩
  obtain ⟨R, hRr⟩ : ∃ R, insV r w0 rest line = R := ⟨_, rfl⟩
  rw [hRr]
  clear hH hrl hops hgs hline
  have CS := Lib.hid shapes_any
  obtain ⟨X1, hX1⟩ : ∃ X1, w.heap.size = X1 := ⟨_, rfl⟩
  obtain ⟨wa, hwa⟩ : ∃ wa, w.alloc (.cells #[.int .u8 0, .string ⟨#[]⟩, .string ⟨#[]⟩] 103 (0, 0)) = wa := ⟨_, rfl⟩
  have hba : Below w.heap.size w wa := by rw [← hwa]; exact (Below.refl _ _).alloc (Nat.le_refl _) _
  have ha : wa.heap[X1]? = some (.cells #[.int .u8 0, .string ⟨#[]⟩, .string ⟨#[]⟩] 103 (0, 0)) := by rw [← hwa, ← hX1]; exact heap_alloc_new w _
  obtain ⟨Wb, rfl⟩ := words_addr hW
  have HR := Lib.hid hR
  have HWc : Hid (∀ W, FrB H okT w W → ∀ i x, (w0 :: rest)[i]? = some x → W.cell? ⟨Wb, i, none⟩ = some (.string ⟨x.toArray⟩)) := Lib.hid fun W h i x hx => words_at (h.own hW (by decide)) i x hx
  have HRr := Lib.hid hRr
  have HG := Lib.hid G
  have HLn := Lib.hid hlen
  clear hR hW hRr G hlen
  go_enter Tryz.func15, Tryz.ntmps15
  go_wp2_with fail
  refine (CS.out _).mono ?_
  rintro e wb ⟨rfl, hwb⟩
  have hbb : Below wa.heap.size wa wb := by rw [hwb]; exact (Below.refl _ _).alloc (Nat.le_refl _) _
  have SH0 : Hid (ShSt X1 wa.heap.size w (upTo (kindOf w0) 0) [] wb) := Lib.hid ⟨by rw [upTo_zero]; exact blk_below ha hbb, by rw [hwb]; exact heap_alloc_new wa _, hba.trans (hbb.mono hba.size)⟩
  obtain ⟨S1, hS1⟩ : ∃ S1, wa.heap.size = S1 := ⟨_, rfl⟩
  have hXS : X1 < S1 := by rw [← hS1, ← hX1]; exact hX1 ▸ (Array.getElem?_eq_some_iff.1 ha).1
  rw [hS1] at SH0
  clear hwa hba ha hwb hbb CS
  go_wp2_with fail
  clear hS1
  go_loopw [22] (fun i wr => ∃ (j : Nat) (wd : List UInt8), i = .int .i64 j ∧ j ≤ 15 ∧ Hid (ShSt X1 S1 w (upTo (kindOf w0) j) wd wr)) (fun i _ => 15 - (intOf i).toNat)
  case atStart => exact ⟨0, [], rfl, by omega, SH0⟩
  case round =>
    obtain ⟨j, wd, rfl, hj, hS⟩ := hrel
    clear SH0
    by_cases hlt : j < 15
    · have e0 := shape_at (j + 1) (by omega) (by omega) 0 (by decide)
      have e1 := shape_at (j + 1) (by omega) (by omega) 1 (by decide)
      have e2 := shape_at (j + 1) (by omega) (by omega) 2 (by decide)
      simp only [Nat.add_sub_cancel, Nat.add_zero] at e0 e1 e2
      have s0 := cell_of hS.out.r (j * 3)
      have s1 := cell_of hS.out.r (j * 3 + 1)
      have s2 := cell_of hS.out.r (j * 3 + 2)
      rw [List.getElem?_toArray, e0] at s0
      rw [List.getElem?_toArray, e1] at s1
      rw [List.getElem?_toArray, e2] at s2
      simp only [shapeCells, List.getElem?_cons_zero, List.getElem?_cons_succ] at s0 s1 s2
      have p1 : (j : Int) < 15 := by omega
      have p2 : (0 : Int) ≤ (j : Int) := Int.natCast_nonneg _
      have hHit := Lib.hid (fun h => upTo_hit (w := w0) hlt h)
      have hMiss := Lib.hid (fun h => upTo_miss (w := w0) hlt h)
      generalize ((j + 1 : Nat) : Int) = kj at *
      obtain ⟨Xx, hXx⟩ : ∃ Xx, wr.heap.size = Xx := ⟨_, rfl⟩
      obtain ⟨w4, hw4⟩ : ∃ w4, wr.alloc (.cells #[.int .u8 kj, .string ⟨(kindW kj).toArray⟩, .string ⟨(partsV kj).toArray⟩] 103 (0, 0)) = w4 := ⟨_, rfl⟩
      have hb4 : Below wr.heap.size wr w4 := by rw [← hw4]; exact (Below.refl _ _).alloc (Nat.le_refl _) _
      have x4 : w4.heap[Xx]? = some (.cells #[.int .u8 kj, .string ⟨(kindW kj).toArray⟩, .string ⟨(partsV kj).toArray⟩] 103 (0, 0)) := by rw [← hw4, ← hXx]; exact heap_alloc_new wr _
      have HS4 := Lib.hid (hS.out.keep hb4)
      have q0 := cell_of x4 0
      have q1 := cell_of x4 1
      have q2 := cell_of x4 2
      simp only [List.getElem?_toArray, List.getElem?_cons_zero, List.getElem?_cons_succ] at q0 q1 q2
      have hw := HWc.out w4 (FrB.ofBelow HS4.out.bel) 0 w0 rfl
      have p3 : (0 : Int) < ((rest.length : Int) + 1) := by omega
      generalize hkw : kindW kj = kw at *
      clear e0 e1 e2 hb4 x4 hS
      by_cases heq : kw = w0
      · have t1 : (kw == w0) = true := by simpa using heq
        have HS5 : Hid (∀ nq, ShSt X1 S1 w (upTo (kindOf w0) (j + 1)) kw ((((w4.drewN nq).setCell ⟨X1, 0, none⟩ (.int .u8 kj)).setCell ⟨X1, 1, none⟩ (.string ⟨kw.toArray⟩)).setCell ⟨X1, 2, none⟩ (.string ⟨(partsV kj).toArray⟩))) := Lib.hid fun nq => by
          rw [hHit.out heq]
          exact sh_store (W := w4.drewN nq) ⟨HS4.out.s, HS4.out.r, HS4.out.bel.trans (below_drewN _ _ _)⟩ hX1 (by omega) kw
        have v0 := cell_of HS4.out.s 0
        have v1 := cell_of HS4.out.s 1
        have v2 := cell_of HS4.out.s 2
        have f0 := frz_of HS4.out.s 0
        have f1 := frz_of HS4.out.s 1
        have f2 := frz_of HS4.out.s 2
        simp only [List.getElem?_toArray, List.getElem?_cons_zero, List.getElem?_cons_succ] at v0 v1 v2
        clear heq hkw HS4 hHit hMiss
        go_wp2_with fail
        clear hw4 hXx s0 s1 s2
        go_quiet (fail)
        go_wp2_with fail
        go_roundw
        case rel => exact ⟨j + 1, kw, by go_num, by omega, Lib.hid (HS5.out _)⟩
        case measure => simp [intOf]; omega
      · have t1 : (kw == w0) = false := by simpa using heq
        have HS5 : Hid (ShSt X1 S1 w (upTo (kindOf w0) (j + 1)) wd w4) := Lib.hid (by rw [hMiss.out heq]; exact HS4.out)
        clear heq hkw HS4 hHit hMiss
        go_wp2_with fail
        clear hw4 hXx s0 s1 s2
        go_quiet (fail)
        go_wp2_with fail
        go_roundw
        case rel => exact ⟨j + 1, wd, by go_num, by omega, Lib.hid ⟨HS5.out.s, HS5.out.r, HS5.out.bel.trans (below_drewN _ _ _)⟩⟩
        case measure => simp [intOf]; omega
    · obtain rfl : j = 15 := by omega
      have HS1 := Lib.hid hS.out
      rw [upTo_all] at HS1
      clear hS hlt
      rw [insV_run] at HRr
      have q0 := cell_of HS1.out.s 0
      have q2 := cell_of HS1.out.s 2
      simp only [List.getElem?_toArray, List.getElem?_cons_zero, List.getElem?_cons_succ] at q0 q2
      have hpl := partsV_len (kindOf w0)
      have HBr := Lib.hid HS1.out.bel
      clear HS1
      cases hfo : formV (kindOf w0) with
      | none =>
        have hk0 : kindOf w0 = 0 := by
          rcases kindOf_cases w0 with h | ⟨i, hi, h⟩
          · exact h
          · exfalso
            rcases formV_cases (kindOf w0) with h2 | ⟨-, h2⟩
            · rcases h2 with h2 | h2 | h2 | h2 | h2 | h2 | h2 | h2 | h2 | h2 | h2 | h2 | h2 | h2 | h2 <;> (rw [h2] at hfo; cases hfo)
            · omega
        have HF : Hid ((none : Option Rd) = R) := Lib.hid (by have h := HRr.out; rw [hfo] at h; exact h)
        rw [hk0] at q0
        clear HRr hfo hk0
        obtain rfl := HF.out
        clear HF
        go_wp2_with fail
        go_ret
        exact ⟨rfl, FrB.ofBelow HBr.out⟩
      | some fo =>
        have hkne : kindOf w0 ≠ 0 := by intro h; rw [h] at hfo; cases hfo
        have t0 : (kindOf w0 == 0) = false := by simpa using hkne
        have HRr : Hid ((if rest.length = (partsV (kindOf w0)).length then (match runParts ⟨kindOf w0, 0, 0, 0, 0, 0⟩ 0 [] (partsV (kindOf w0)) rest with
            | some (o, g) => if okV o then some { r with ops := r.ops ++ [o], goals := r.goals ++ g.map fun w => (r.ops.length, line, w) } else none
            | none => none) else none) = R) := Lib.hid (by have h := HRr.out; rw [hfo] at h; exact h)
        have HP0 : Hid ((∀ p ∈ partsV (kindOf w0), p.toNat < 128) ∧ 0 + (partsV (kindOf w0)).count 114 ≤ 3) := Lib.hid (partsV_form hfo)
        have HP99 : Hid ((partsV (kindOf w0)).count 99 ≤ 1) := Lib.hid (partsV_99 hfo)
        have HLT : Hid (∀ p ∈ partsV (kindOf w0), p = 99 ∨ p = 114 ∨ p = 110 ∨ p = 108) := Lib.hid (partsV_letters hfo)
        clear hfo
        generalize hK : kindOf w0 = K at *
        generalize hps : partsV K = ps at *
        by_cases hl : rest.length = ps.length
        · have t1 : (((rest.length : Int) + 1) != (1 + (ps.length : Int))) = false := len_same hl
          have HRr : Hid ((match runParts ⟨K, 0, 0, 0, 0, 0⟩ 0 [] ps rest with
            | some (o, g) => if okV o then some { r with ops := r.ops ++ [o], goals := r.goals ++ g.map fun w => (r.ops.length, line, w) } else none
            | none => none) = R) := Lib.hid (by have h := HRr.out; rw [if_pos hl] at h; exact h)
          have HL := Lib.hid hl
          clear hl
          obtain ⟨vl, vg, hrd⟩ := HR.out
          have hRBl := hrd.lt
          have hMBl := hrd.map.lt
          have hlo : ∀ k, vl.ownBlock = some k → k < w.heap.size := fun k hk => (hrd.ops.lt k hk).2
          rw [hX1] at hRBl hMBl
          have hsz := HBr.out.size
          rw [hX1] at hsz
          obtain ⟨Xo, hXo⟩ : ∃ Xo, wr.heap.size = Xo := ⟨_, rfl⟩
          obtain ⟨w5, hw5⟩ : ∃ w5, wr.alloc (.cells #[.int .u8 K, .int .u8 0, .int .u8 0, .int .u8 0, .int .u8 0, .int .i64 0] 79 (0, 0)) = w5 := ⟨_, rfl⟩
          obtain ⟨Xp, hXp⟩ : ∃ Xp, w5.heap.size = Xp := ⟨_, rfl⟩
          obtain ⟨w6, hw6⟩ : ∃ w6, w5.alloc (.cells #[.pointer (some ⟨Xo, 2, none⟩), .pointer (some ⟨Xo, 3, none⟩), .pointer (some ⟨Xo, 4, none⟩)] 106 (0, 0)) = w6 := ⟨_, rfl⟩
          obtain ⟨Xi, hXi⟩ : ∃ Xi, w6.heap.size = Xi := ⟨_, rfl⟩
          obtain ⟨w7, hw7⟩ : ∃ w7, w6.iter ⟨ps.toArray⟩ 0 = w7 := ⟨_, rfl⟩
          have hb5 : Below wr.heap.size wr w5 := by rw [← hw5]; exact (Below.refl _ _).alloc (Nat.le_refl _) _
          have hb6 : Below w5.heap.size w5 w6 := by rw [← hw6]; exact (Below.refl _ _).alloc (Nat.le_refl _) _
          have hb7 : Below w6.heap.size w6 w7 := by rw [← hw7]; exact (Below.refl _ _).alloc (Nat.le_refl _) _
          have o5 : w5.heap[Xo]? = some (.cells #[.int .u8 K, .int .u8 0, .int .u8 0, .int .u8 0, .int .u8 0, .int .i64 0] 79 (0, 0)) := by rw [← hw5, ← hXo]; exact heap_alloc_new wr _
          have p6 : w6.heap[Xp]? = some (.cells #[.pointer (some ⟨Xo, 2, none⟩), .pointer (some ⟨Xo, 3, none⟩), .pointer (some ⟨Xo, 4, none⟩)] 106 (0, 0)) := by rw [← hw6, ← hXp]; exact heap_alloc_new w5 _
          have i7 : w7.heap[Xi]? = some (.stringIter ⟨ps.toArray⟩ 0) := by rw [← hw7, ← hXi]; exact World.iter_heap w6 _ 0
          have hb06 : Below wr.heap.size wr w6 := hb5.trans (hb6.mono hb5.size)
          have hb07 : Below wr.heap.size wr w7 := hb06.trans (hb7.mono hb06.size)
          have I0 : Hid (InSt H RB MB Xo Xp Xi w r line ps 0 ⟨K, 0, 0, 0, 0, 0⟩ [] vl vg w7) := Lib.hid ⟨by
            simp only [List.map_nil, List.append_nil]
            exact (hrd.below (HBr.out.trans (hb07.mono HBr.out.size))), hlo, blk_below (blk_below o5 hb6) hb7, blk_below p6 hb7, i7, FrB.ofBelow (HBr.out.trans (hb07.mono HBr.out.size))⟩
          have hXo1 : X1 ≤ Xo := by omega
          have hXp1 : X1 ≤ Xp := by have := hb5.size; omega
          have hXi1 : X1 ≤ Xi := by have := hb06.size; omega
          have hX1l : X1 < wr.heap.size := by
            have h := World.block_lt_of_cell? _ _ q0
            exact h
          have q2' := (hb06.cell (p := ⟨X1, 2, none⟩) hX1l).trans q2
          have q0' := (hb5.cell (p := ⟨X1, 0, none⟩) hX1l).trans q0
          have hwp := wrap_one hpl
          have HX : Hid (RB < X1 ∧ MB < X1 ∧ X1 ≤ Xo ∧ X1 ≤ Xp ∧ X1 ≤ Xi ∧ ps.length ≤ 4) := Lib.hid ⟨hRBl, hMBl, hXo1, hXp1, hXi1, hpl⟩
          clear hb5 hb6 hb7 o5 p6 i7 hb06 hb07 hlo hrd HR hsz hRBl hMBl hXo1 hXp1 hXi1 hpl hK hps
          have hX1m : X1 < wr.heap.size + 1 := Nat.lt_succ_of_lt hX1l
          have hX1n : X1 ≠ wr.heap.size := Nat.ne_of_lt hX1l
          have hX1o : X1 ≠ wr.heap.size + 1 := Nat.ne_of_lt hX1m
          have HNm : Hid (wr.heap.size = Xo ∧ wr.alloc (.cells #[.int .u8 K, .int .u8 0, .int .u8 0, .int .u8 0, .int .u8 0, .int .i64 0] 79 (0, 0)) = w5 ∧ w5.heap.size = Xp ∧ w5.alloc (.cells #[.pointer (some ⟨Xo, 2, none⟩), .pointer (some ⟨Xo, 3, none⟩), .pointer (some ⟨Xo, 4, none⟩)] 106 (0, 0)) = w6 ∧ w6.heap.size = Xi ∧ w6.iter ⟨ps.toArray⟩ 0 = w7) := Lib.hid ⟨hXo, hw5, hXp, hw6, hXi, hw7⟩
          clear hXo hw5 hXp hw6 hXi hw7 q0' q2'
          go_wp2_with fail
          obtain ⟨e1, e2, e3, e4, e5, e6⟩ := HNm.out
          have e3b : Xo + 1 = Xp := by rw [← e3, ← e2]; simp [e1]
          have e5b : Xp + 1 = Xi := by rw [← e5, ← e4]; simp [e3]
          have e5c : Xo + 2 = Xi := by omega
          simp only [e1, e3b, e5b, e5c, e2, e4, e6]
          clear e1 e2 e3 e4 e5 e6 e3b e5b e5c HNm hX1m hX1n hX1o hX1l q0 q2 t0 t1 hwp HBr
          have HP1 : Hid ((99 ∈ ps → (0 : Int) = 0) ∧ ps.count 99 ≤ 1) := Lib.hid ⟨fun _ => rfl, HP99.out⟩
          go_loopw [11] (fun rg wr => ∃ (pos q qo : Nat) (o : Cmd) (g : List (List UInt8)) (vg : Value) (suf : List UInt8) (xs : List (List UInt8)), rg = .slice (some ⟨Xp, qo, none⟩) (3 - q) (3 - q) ∧ Hid (qo = if q = 3 then 2 else q) ∧ Hid (pos + suf.length = ps.length ∧ q ≤ 3 ∧ g.length ≤ pos) ∧ Hid (InSt H RB MB Xo Xp Xi w r line ps pos o g vl vg wr) ∧ Hid (ps.drop pos = suf ∧ rest.drop pos = xs) ∧ Hid ((∀ p ∈ suf, p.toNat < 128) ∧ q + suf.count 114 ≤ 3) ∧ Hid ((99 ∈ suf → o.c = 0) ∧ suf.count 99 ≤ 1) ∧ Hid (runParts o q g suf xs = runParts ⟨K, 0, 0, 0, 0, 0⟩ 0 [] ps rest)) (fun _ wr => ps.length - wr.iterPos Xi)
          case atStart => exact ⟨0, 0, 0, _, [], vg, ps, rest, rfl, Lib.hid rfl, Lib.hid ⟨by omega, by omega, by simp⟩, I0, Lib.hid ⟨by rw [List.drop_zero], by rw [List.drop_zero]⟩, HP0, HP1, Lib.hid rfl⟩
          case round =>
            obtain ⟨pos, q, qo, o, g, vg, suf, xs, rfl, hqo, hnum, hI, hdr, hpk, hpc, hrun⟩ := hrel
            clear I0 HP0 HP1
            cases suf with
            | nil =>
              have hend : ¬ pos < (⟨ps.toArray⟩ : ByteArray).size := by
                have h := hnum.out.1
                simp [ByteArray.size]; simp at h; omega
              have hnx := fun ty => Lib.run_next_end_at (P := Tryz.prog) wr Xi ⟨ps.toArray⟩ pos ty hI.out.i hend
              have HO : Hid ((if okV o then some { r with ops := r.ops ++ [o], goals := r.goals ++ g.map fun w => (r.ops.length, line, w) } else none) = R) := Lib.hid (by have h := HRr.out; rw [← hrun.out, runParts_nil] at h; exact h)
              obtain ⟨i0, hi0, hz0, hz1, hz2⟩ := info_parts infoOp
              have HSa : Hid (∀ W, Below wr.heap.size wr W → ApS RB Xo vl o W) := Lib.hid fun W hb => (hI.out.below hb).aps
              have HRo := Lib.hid (fun W (hb : Below wr.heap.size wr W) => (hI.out.below hb).rd.ops)
              have HA := Lib.hid (fun (w4 w5 : World) (v' : Value) hb hg ho => hI.out.app (w4 := w4) (w5 := w5) (v' := v') HNum.out.1 (by rw [hX1]; exact HX.out.2.2.1) hb hg ho)
              have hnum2 := Lib.hid HNum.out.2.2.1
              have HBs : Hid (H ≤ wr.heap.size) := Lib.hid (by have h1 := HNum.out.1; have h2 := hI.out.rd.lt; omega)
              clear hend hrun hpk hpc hdr hnum hqo HRr HLT hI
              go_wp2_with fail
              clear hnx
              refine wp_region_L (l := 10) (S := (ApS RB Xo vl o)) (by kernel_rfl) ?_ (fun hHeld => ?_)
              · ((try dsimp only); (exact HSa.out _ (Below.refl _ _).drew))
              refine wpAnyL_take (i := 0) (oi := _) (v := ?v1) rfl (by kernel_rfl) (fun _ _ _ h => h) (by assumption) (Or.inl ⟨by kernel_rfl, ?y1⟩) ?r1
              case y1 => (intro w hSw; (try dsimp only at hSw); go_simp; all_goals with_reducible rfl)
              try simp only [List.getElem_toArray, List.getElem_cons_zero, List.getElem_cons_succ, Act.put, List.setIfInBounds_toArray, List.set_cons_zero, List.set_cons_succ]
              refine wpAnyL_take (i := 1) (oi := _) (v := ?v2) rfl (by kernel_rfl) (fun _ _ _ h => h) (by assumption) (Or.inl ⟨by kernel_rfl, ?y2⟩) ?r2
              case y2 => (intro w hSw; (try dsimp only at hSw); go_simp; all_goals with_reducible rfl)
              try simp only [List.getElem_toArray, List.getElem_cons_zero, List.getElem_cons_succ, Act.put, List.setIfInBounds_toArray, List.set_cons_zero, List.set_cons_succ]
              refine wpAnyL_take (i := 2) (oi := _) (v := ?v3) rfl (by kernel_rfl) (fun _ _ _ h => h) (by assumption) (Or.inl ⟨by kernel_rfl, ?y3⟩) ?r3
              case y3 => (intro w hSw; (try dsimp only at hSw); go_simp; all_goals with_reducible rfl)
              try simp only [List.getElem_toArray, List.getElem_cons_zero, List.getElem_cons_succ, Act.put, List.setIfInBounds_toArray, List.set_cons_zero, List.set_cons_succ]
              refine wpAnyL_take (i := 3) (oi := _) (v := ?v4) rfl (by kernel_rfl) (fun _ _ _ h => h) (by assumption) (Or.inl ⟨by kernel_rfl, ?y4⟩) ?r4
              case y4 => (intro w hSw; (try dsimp only at hSw); go_simp; all_goals with_reducible rfl)
              try simp only [List.getElem_toArray, List.getElem_cons_zero, List.getElem_cons_succ, Act.put, List.setIfInBounds_toArray, List.set_cons_zero, List.set_cons_succ]
              refine wpAnyL_take (i := 4) (oi := _) (v := ?v5) rfl (by kernel_rfl) (fun _ _ _ h => h) (by assumption) (Or.inl ⟨by kernel_rfl, ?y5⟩) ?r5
              case y5 => (intro w hSw; (try dsimp only at hSw); go_simp; all_goals with_reducible rfl)
              try simp only [List.getElem_toArray, List.getElem_cons_zero, List.getElem_cons_succ, Act.put, List.setIfInBounds_toArray, List.set_cons_zero, List.set_cons_succ]
              refine wpAnyL_take (i := 5) (oi := _) (v := ?v6) rfl (by kernel_rfl) (fun _ _ _ h => h) (by assumption) (Or.inl ⟨by kernel_rfl, ?y6⟩) ?r6
              case y6 => (intro w hSw; (try dsimp only at hSw); go_simp; all_goals with_reducible rfl)
              try simp only [List.getElem_toArray, List.getElem_cons_zero, List.getElem_cons_succ, Act.put, List.setIfInBounds_toArray, List.set_cons_zero, List.set_cons_succ]
              refine wpAnyL_step (j := 6) (o := _) (by kernel_rfl) rfl (fun K hK => ?_)
              (go_simp; have hB4 := Lib.hid (fun o => ((Below.refl wr.heap.size wr).drew).alloc (Nat.le_refl _) o))
              refine hK _ _ ?_ (fun hHeld => ?_)
              · ((try dsimp only); (exact HSa.out _ (hB4.out _)))
              clear hK K
              try simp only [List.getElem_toArray, List.getElem_cons_zero, List.getElem_cons_succ, Act.put, List.setIfInBounds_toArray, List.set_cons_zero, List.set_cons_succ]
              refine wpAnyL_step (j := 7) (o := _) (by kernel_rfl) rfl (fun K hK => ?_)
              (refine wp_append_own_at _ _ 22 rfl H 79 i0 _ 6 16 Tryz.underlying22 hi0 hz0 hz1 hz2 rfl (by decide) vl r.ops.length (r.ops.flatMap Cmd.cells) rfl (HRo.out _ (hB4.out _)) ⟨wr.heap.size, 0, none⟩ 1 1 o.cells rfl rfl (World.news_of_block (heap_alloc_new wr.drew _)) (by simp [Cmd.cells, Value.oneCell']) (by have := hnum2.out; unfold maxLen; omega) (by have := hnum2.out; omega) (Nat.le_trans HBs.out (hB4.out _).size) ?_; intro v' w5 hown' hgrow hat; obtain ⟨gg, cp, rfl⟩ : ∃ gg cp, v' = .slice (some ⟨gg, 0, none⟩) (r.ops.length + 1) cp := (hown'.2.elim (fun h => absurd h.2 (by omega)) (fun ⟨gg, cp, cur, h, _⟩ => ⟨gg, cp, h⟩)); have hG := Lib.hid (HA.out _ _ _ (hB4.out _) hgrow hown'); obtain ⟨⟨c0, f0⟩, -⟩ := hG.out; clear hown' hgrow hat)
              refine hK _ _ ?_ (fun hHeld => ?_)
              · ((try dsimp only); (exact aps_of hG.out.1.1 hG.out.2.1))
              clear hK K
              try simp only [List.getElem_toArray, List.getElem_cons_zero, List.getElem_cons_succ, Act.put, List.setIfInBounds_toArray, List.set_cons_zero, List.set_cons_succ]
              refine wpAnyL_take (i := 8) (oi := _) (v := ?v9) rfl (by kernel_rfl) (fun _ _ _ h => h) (by assumption) (Or.inl ⟨by kernel_rfl, ?y9⟩) ?r9
              case y9 => (intro w hSw; (try dsimp only at hSw); go_simp; all_goals with_reducible rfl)
              try simp only [List.getElem_toArray, List.getElem_cons_zero, List.getElem_cons_succ, Act.put, List.setIfInBounds_toArray, List.set_cons_zero, List.set_cons_succ]
              refine wpAnyL_take (i := 9) (oi := _) (v := ?v10) rfl (by kernel_rfl) (fun _ _ _ h => h) (by assumption) (Or.inl ⟨by kernel_rfl, ?y10⟩) ?r10
              case y10 => (intro w hSw; (try dsimp only at hSw); go_simp; all_goals with_reducible rfl)
              try simp only [List.getElem_toArray, List.getElem_cons_zero, List.getElem_cons_succ, Act.put, List.setIfInBounds_toArray, List.set_cons_zero, List.set_cons_succ]
              refine wpAnyL_last (j := 10) (o := _) (by kernel_rfl) rfl (by rfl) (by kernel_rfl) (fun K hK => ?_)
              go_simp
              (refine hK _ _ ?_; clear hK K)
              try simp only [List.getElem_toArray, List.getElem_cons_zero, List.getElem_cons_succ, Act.put, List.setIfInBounds_toArray, List.set_cons_zero, List.set_cons_succ]
              have hRd := Lib.hid (RdIs.of hG.out.2.2.2.1)
              have hFr := Lib.hid hG.out.2.2.2.2
              have hXs := Lib.hid hG.out.2.2.1
              have x0 := cell_of hXs.out 0
              have x1 := cell_of hXs.out 1
              have x2 := cell_of hXs.out 2
              have x3 := cell_of hXs.out 3
              have x4 := cell_of hXs.out 4
              have x5 := cell_of hXs.out 5
              simp only [List.getElem?_toArray, List.getElem?_cons_zero, List.getElem?_cons_succ] at x0 x1 x2 x3 x4 x5
              have CC := Lib.hid (fun W => icheck_any o.k o.c o.a o.b o.d o.n W)
              clear hG HSa HRo HA hB4 c0 f0 hHeld hi0 hz0 hz1 hz2
              cases hok : okV o with
              | true =>
                have hE : okE ⟨o.k, o.c, o.a, o.b, o.d, o.n⟩ = 0 := by unfold okE; rw [show (⟨o.k, o.c, o.a, o.b, o.d, o.n⟩ : Cmd) = o from rfl, hok]; rfl
                rw [hE] at CC
                have HF := Lib.hid HO.out
                rw [hok, if_pos rfl] at HF
                obtain rfl := HF.out
                clear HF HO hE hok
                go_wp2_with (go_at_call 110; refine (CC.out _).mono ?_; rintro e w7 ⟨rfl, hb7⟩)
                go_ret
                exact ⟨⟨rfl, hRd.out.below hb7⟩, hFr.out.trans (.ofBelow hb7)⟩
              | false =>
                have hE : okE ⟨o.k, o.c, o.a, o.b, o.d, o.n⟩ = 1 := by unfold okE; rw [show (⟨o.k, o.c, o.a, o.b, o.d, o.n⟩ : Cmd) = o from rfl, hok]; rfl
                rw [hE] at CC
                have HF := Lib.hid HO.out
                rw [hok, if_neg (by decide)] at HF
                obtain rfl := HF.out
                clear HF HO hE hok
                go_wp2_with (go_at_call 110; refine (CC.out _).mono ?_; rintro e w7 ⟨rfl, hb7⟩)
                go_ret
                exact ⟨rfl, hFr.out.trans (.ofBelow hb7)⟩
            | cons c rest2 =>
              have hlt2 : pos < ps.length := by have h := hnum.out.1; simp at h; omega
              have hlt3 : pos < rest.length := by have h := HL.out; omega
              have hsz : (⟨ps.toArray⟩ : ByteArray).size = ps.length := by simp [ByteArray.size]
              have hget : (⟨ps.toArray⟩ : ByteArray)[pos]'(by rw [hsz]; exact hlt2) = c := by
                have h := hdr.out.1
                rw [List.drop_eq_getElem_cons hlt2] at h
                injection h
              obtain ⟨x, hx⟩ : ∃ x, rest[pos] = x := ⟨_, rfl⟩
              have hxs : Hid (xs = x :: rest.drop (pos + 1)) := Lib.hid (by rw [← hdr.out.2, List.drop_eq_getElem_cons hlt3, hx])
              have hdrop : Hid (ps.drop (pos + 1) = rest2) := Lib.hid (by
                have h := hdr.out.1
                rw [List.drop_eq_getElem_cons hlt2] at h
                injection h)
              have hxl : Hid (x.length ≤ 65536) := Lib.hid (HLn.out x (List.mem_cons_of_mem _ (by rw [← hx]; exact List.getElem_mem hlt3)))
              have hc128 := hpk.out.1 c (List.mem_cons_self)
              have hnx := fun ty => Lib.run_next_ascii_at (P := Tryz.prog) wr Xi ⟨ps.toArray⟩ pos ty hI.out.i (by rw [hsz]; exact hlt2) (by rw [hget]; exact hc128)
              rw [hget] at hnx
              have I9 := Lib.hid (hI.out.next (by rw [hX1]; exact HX.out.2.2.2.2.1) (by rw [hX1]; exact HX.out.1) (by rw [hX1]; exact HX.out.2.1) (pos + 1))
              have hwx : ∀ W, FrB H okT w W → W.cell? ⟨Wb, 1 + pos, none⟩ = some (.string ⟨x.toArray⟩) := fun W h => HWc.out W h (1 + pos) x (by
                rw [Nat.add_comm, List.getElem?_cons_succ, List.getElem?_eq_getElem hlt3, hx])
              have hgm : Hid (g.length ≤ pos) := Lib.hid hnum.out.2.2
              have hn2 : Hid (pos + 1 + rest2.length = ps.length ∧ q ≤ 3 ∧ g.length ≤ pos + 1) := Lib.hid (by have h := hnum.out; simp at h; omega)
              have hpk2 : Hid (∀ p ∈ rest2, p.toNat < 128) := Lib.hid fun p hp => hpk.out.1 p (List.mem_cons_of_mem _ hp)
              have hps4 : pos ≤ 3 := by have h := HX.out.2.2.2.2.2; omega
              have hmz : ps.length - (pos + 1) < ps.length - wr.iterPos Xi := by rw [iterPos_of hI.out.i]; omega
              have HMZ := Lib.hid hmz
              obtain ⟨w9, hw9e⟩ : ∃ w9, wr.iterAt Xi ⟨ps.toArray⟩ (pos + 1) = w9 := ⟨_, rfl⟩
              rw [hw9e] at I9
              simp only [hw9e] at hnx
              clear hw9e
              have hw9 := hwx w9 I9.out.fr
              have HWP := Lib.hid (wrap_one (n := pos) (by omega))
              have p1 : (1 : Int) + (pos : Int) < (rest.length : Int) + 1 := by omega
              have p2 : (0 : Int) ≤ 1 + (pos : Int) := by omega
              clear hget hsz hI hlt2 hlt3 hmz hps4 hx hwx
              by_cases h99 : c = 99
              · subst h99
                have hwp1 := HWP.out
                have hG9 := HG.out w9 (I9.out.fr.below (by rw [hX1]; have h := HX.out.1; have h2 := HNum.out.1; omega))
                have CC := Lib.hid (calcs_any w9 hG9)
                obtain ⟨ok, oc, oa, ob, od, on⟩ := o
                obtain rfl : oc = 0 := hpc.out.1 List.mem_cons_self
                have h99r : Hid (99 ∉ rest2) := Lib.hid fun h => by
                  have h1 := hpc.out.2
                  rw [List.count_cons_self] at h1
                  have h2 := List.count_pos_iff.2 h
                  omega
                have hpk3 : Hid ((∀ p ∈ rest2, p.toNat < 128) ∧ q + rest2.count 114 ≤ 3) := Lib.hid ⟨hpk2.out, by have h := hpk.out.2; rw [List.count_cons_of_ne (by decide)] at h; exact h⟩
                have hrun2 : Hid (runParts ⟨ok, calcOf x, oa, ob, od, on⟩ q g rest2 (rest.drop (pos + 1)) = runParts ⟨K, 0, 0, 0, 0, 0⟩ 0 [] ps rest) := Lib.hid (by rw [← hrun.out, hxs.out, runParts_c])
                clear hG9 hpk hpc hrun hxs hpk2
                go_wp2_with fail
                refine CC.out.mono ?_
                rintro e wc ⟨rfl, hwc⟩
                have hbc : Below w9.heap.size w9 wc := by rw [hwc]; exact (Below.refl _ _).alloc (Nat.le_refl _) _
                have HNc : Hid (wc.heap[w9.heap.size]? = some (.cells calcCells.toArray 9 (0, 0))) := Lib.hid (by rw [hwc]; exact heap_alloc_new w9 _)
                have Ic : Hid (InSt H RB MB Xo Xp Xi w r line ps (pos + 1) ⟨ok, upTo (calcOf x) 0, oa, ob, od, on⟩ g vl vg wc) := Lib.hid (by rw [cupTo_zero]; exact I9.out.below hbc)
                obtain ⟨NB, hNB⟩ : ∃ NB, w9.heap.size = NB := ⟨_, rfl⟩
                rw [hNB] at HNc
                have hNX : Hid (NB ≠ Xo) := Lib.hid fun e => by
                  have h1 := (Array.getElem?_eq_some_iff.1 I9.out.o).1
                  omega
                clear hwc hbc I9 CC hnx hw9 hwp1
                go_wp2_with fail
                clear hNB
                go_loopw [70] (fun i wr => ∃ j : Nat, i = .int .i64 j ∧ j ≤ 14 ∧ Hid (InSt H RB MB Xo Xp Xi w r line ps (pos + 1) ⟨ok, upTo (calcOf x) j, oa, ob, od, on⟩ g vl vg wr) ∧ Hid (wr.heap[NB]? = some (.cells calcCells.toArray 9 (0, 0)))) (fun i _ => 14 - (intOf i).toNat)
                case atStart => exact ⟨0, rfl, by omega, Ic, HNc⟩
                case round =>
                  obtain ⟨j, rfl, hj, hIj, hNj⟩ := hrel
                  clear Ic HNc
                  by_cases hlt : j < 14
                  · have n0 := cell_of hNj.out j
                    rw [List.getElem?_toArray, show j = (j + 1) - 1 from rfl, calc_at2 (j + 1) (by omega) (by omega), show (j + 1) - 1 = j from rfl] at n0
                    have hHit := Lib.hid (fun h => cupTo_hit (w := x) hlt h)
                    have hMiss := Lib.hid (fun h => cupTo_miss (w := x) hlt h)
                    have hw2 := Lib.hid (calc_wrap (j := j) hlt)
                    obtain ⟨kj, hkj⟩ : ∃ kj : Int, ((j + 1 : Nat) : Int) = kj := ⟨_, rfl⟩
                    rw [hkj] at n0 hHit hMiss hw2
                    obtain ⟨cw, hcw⟩ : ∃ cw, calcW kj = cw := ⟨_, rfl⟩
                    rw [hcw] at n0 hHit hMiss
                    have p3 : (j : Int) < 14 := by omega
                    have p4 : (0 : Int) ≤ (j : Int) := Int.natCast_nonneg _
                    clear hkj hcw
                    by_cases heq : cw = x
                    · have t1 : (cw == x) = true := by simpa using heq
                      have v1 := cell_of hIj.out.o 1
                      have f1 := frz_of hIj.out.o 1
                      simp only [List.getElem?_toArray, List.getElem?_cons_zero, List.getElem?_cons_succ] at v1
                      have hI2 : Hid (InSt H RB MB Xo Xp Xi w r line ps (pos + 1) ⟨ok, upTo (calcOf x) (j + 1), oa, ob, od, on⟩ g vl vg (wr.setCell ⟨Xo, 1, none⟩ (.int .u8 kj))) := Lib.hid (by
                        rw [hHit.out heq]
                        exact hIj.out.setO (by rw [hX1]; exact HX.out.2.2.1) (by rw [hX1]; exact HX.out.1) (by rw [hX1]; exact HX.out.2.1) 1 (.int .u8 kj) _ rfl)
                      have hN2 : Hid ((wr.setCell ⟨Xo, 1, none⟩ (.int .u8 kj)).heap[NB]? = some (.cells calcCells.toArray 9 (0, 0))) := Lib.hid (blk_set_ne hNj.out hNX.out _ _)
                      clear heq hIj hNj hHit hMiss
                      have hw3 := hw2.out.1
                      have hw4 := hw2.out.2
                      go_wp2_with fail
                      clear hw3 hw4
                      go_roundw
                      case rel =>
                        first
                          | exact ⟨j + 1, by go_num, by omega, hI2, hN2⟩
                          | ((repeat apply Exists.intro); exact ⟨⟨j + 1, by go_num, by omega, hI2, hN2⟩, rfl⟩)
                      case measure => simp [intOf]; omega
                    · have t1 : (cw == x) = false := by simpa using heq
                      have hI2 : Hid (InSt H RB MB Xo Xp Xi w r line ps (pos + 1) ⟨ok, upTo (calcOf x) (j + 1), oa, ob, od, on⟩ g vl vg wr) := Lib.hid (by rw [hMiss.out heq]; exact hIj.out)
                      clear heq hIj hHit hMiss hw2
                      go_wp2_with fail
                      go_roundw
                      case rel =>
                        first
                          | exact ⟨j + 1, by go_num, by omega, hI2, hNj⟩
                          | ((repeat apply Exists.intro); exact ⟨⟨j + 1, by go_num, by omega, hI2, hNj⟩, rfl⟩)
                      case measure => simp [intOf]; omega
                  · obtain rfl : j = 14 := by omega
                    have hI14 := Lib.hid hIj.out
                    rw [cupTo_all] at hI14
                    have hms : ps.length - wr.iterPos Xi = ps.length - (pos + 1) := by rw [iterPos_of hI14.out.i]
                    clear hIj hlt
                    go_wp2_with fail
                    go_roundw
                    case rel =>
                      have h99c : rest2.count 99 ≤ 1 := by rw [List.count_eq_zero_of_not_mem h99r.out]; omega
                      first
                        | exact ⟨pos + 1, q, qo, _, g, vg, rest2, rest.drop (pos + 1), rfl, hqo, hn2, hI14, Lib.hid ⟨hdrop.out, rfl⟩, hpk3, Lib.hid ⟨fun h => absurd h h99r.out, h99c⟩, hrun2⟩
                        | ((repeat apply Exists.intro); exact ⟨⟨pos + 1, q, qo, _, g, vg, rest2, rest.drop (pos + 1), rfl, hqo, hn2, hI14, Lib.hid ⟨hdrop.out, rfl⟩, hpk3, Lib.hid ⟨fun h => absurd h h99r.out, h99c⟩, hrun2⟩, rfl⟩)
                    case measure => rw [hms]; exact HMZ.out
              · have f1 : ((c.toNat : Int) == 99) = false := by simp only [beq_eq_false_iff_ne]; intro e; exact h99 (UInt8.toNat_inj.1 (by exact_mod_cast e))
                have hpc2 : Hid ((99 ∈ rest2 → o.c = 0) ∧ rest2.count 99 ≤ 1) := Lib.hid ⟨fun h => hpc.out.1 (List.mem_cons_of_mem _ h), by have h := hpc.out.2; rw [List.count_cons_of_ne h99] at h; exact h⟩
                by_cases h114 : c = 114
                · subst h114
                  have hq2 : q ≤ 2 := by have h := hpk.out.2; rw [List.count_cons_self] at h; omega
                  have hpk3 : Hid ((∀ p ∈ rest2, p.toNat < 128) ∧ q + 1 + rest2.count 114 ≤ 3) := Lib.hid ⟨hpk2.out, by have h := hpk.out.2; rw [List.count_cons_self] at h; omega⟩
                  obtain rfl : qo = q := by have h := hqo.out; rw [if_neg (by omega)] at h; exact h
                  have hrun2 : Hid ((match regOf x with | some v => runParts (setReg o qo v) (qo + 1) g rest2 (rest.drop (pos + 1)) | none => none) = runParts ⟨K, 0, 0, 0, 0, 0⟩ 0 [] ps rest) := Lib.hid (by rw [← hrun.out, hxs.out, runParts_r]; try rfl)
                  obtain ⟨pv, pb, hpair⟩ : ∃ pv pb, regPair x = (pv, pb) := ⟨(regPair x).1, (regPair x).2, rfl⟩
                  have CR := Lib.hid (register_any x)
                  rw [hpair] at CR
                  have HRO : Hid ((pb = true → regOf x = some pv) ∧ (pb = false → regOf x = none)) := Lib.hid (by
                    unfold regPair at hpair
                    cases hro : regOf x with
                    | none => rw [hro] at hpair; injection hpair with h1 h2; subst h2; exact ⟨fun h => (by cases h), fun _ => rfl⟩
                    | some v => rw [hro] at hpair; injection hpair with h1 h2; subst h1; subst h2; exact ⟨fun _ => rfl, fun h => (by cases h)⟩)
                  clear hrun hxs hpk hpc hpk2 hqo hpair
                  have HS5 : Hid (∀ W, InSt H RB MB Xo Xp Xi w r line ps (pos + 1) o g vl vg W → InSt H RB MB Xo Xp Xi w r line ps (pos + 1) (setReg o qo pv) g vl vg (W.setCell ⟨Xo, qo + 2, none⟩ (.int .u8 pv))) := Lib.hid fun W hI => by
                    obtain rfl | rfl | rfl : qo = 0 ∨ qo = 1 ∨ qo = 2 := by omega
                    all_goals exact hI.setO (by rw [hX1]; exact HX.out.2.2.1) (by rw [hX1]; exact HX.out.1) (by rw [hX1]; exact HX.out.2.1) _ _ _ rfl
                  have HSP : Hid (∀ W o, InSt H RB MB Xo Xp Xi w r line ps (pos + 1) o g vl vg W → W.cell? ⟨Xp, qo, none⟩ = some (.pointer (some ⟨Xo, qo + 2, none⟩))) := Lib.hid fun W o hI => by
                    obtain rfl | rfl | rfl : qo = 0 ∨ qo = 1 ∨ qo = 2 := by omega
                    all_goals exact cell_of hI.p _
                  have HS6 : Hid (InSt H RB MB Xo Xp Xi w r line ps (pos + 1) o g vl vg w9.drew) := Lib.hid (I9.out.below (Below.refl _ _).drew)
                  have HS7 : Hid (InSt H RB MB Xo Xp Xi w r line ps (pos + 1) (setReg o qo pv) g vl vg (w9.setCell ⟨Xo, qo + 2, none⟩ (.int .u8 pv)).drew) := Lib.hid ((HS5.out _ I9.out).below (Below.refl _ _).drew)
                  have HF9 : Hid (w9.drew.frozen? ⟨Xo, qo + 2, none⟩ = false ∧ ∃ u : Int, w9.drew.cell? ⟨Xo, qo + 2, none⟩ = some (.int .u8 u)) := Lib.hid (by
                    obtain rfl | rfl | rfl : qo = 0 ∨ qo = 1 ∨ qo = 2 := by omega
                    · exact ⟨frz_of HS6.out.o _, _, cell_of HS6.out.o 2⟩
                    · exact ⟨frz_of HS6.out.o _, _, cell_of HS6.out.o 3⟩
                    · exact ⟨frz_of HS6.out.o _, _, cell_of HS6.out.o 4⟩)
                  have HQ := Lib.hid hq2
                  obtain ⟨nq, hnq⟩ : ∃ nq, 3 - qo = nq := ⟨_, rfl⟩
                  have HNQ := Lib.hid hnq
                  have p4 : 0 < nq := by omega
                  have p5 : (0 : Int) < (nq : Int) := by omega
                  rw [hnq]
                  have hwp1 := HWP.out
                  clear hq2 hnq
                  go_wp2_with fail
                  clear p1 p2 hwp1 hw9 hnx hc128
                  refine wp_region_L (l := 10) (S := (fun W => W.cell? ⟨Xp, qo, none⟩ = some (.pointer (some ⟨Xo, qo + 2, none⟩)))) (by kernel_rfl) ?_ (fun hHeld => ?_)
                  · ((try dsimp only); (with_reducible exact HSP.out _ _ HS6.out))
                  refine wpAnyL_take (i := 0) (oi := _) (v := ?v12) rfl (by kernel_rfl) (fun _ _ _ h => h) (by assumption) (Or.inl ⟨by kernel_rfl, ?y12⟩) ?r12
                  case y12 => (intro w hSw; (try dsimp only at hSw); go_simp; all_goals with_reducible rfl)
                  try simp only [List.getElem_toArray, List.getElem_cons_zero, List.getElem_cons_succ, Act.put, List.setIfInBounds_toArray, List.set_cons_zero, List.set_cons_succ]
                  refine wpAnyL_take (i := 1) (oi := _) (v := ?v13) rfl (by kernel_rfl) (fun _ _ _ h => h) (by assumption) (Or.inl ⟨by kernel_rfl, ?y13⟩) ?r13
                  case y13 => (intro w hSw; (try dsimp only at hSw); go_simp; all_goals with_reducible rfl)
                  try simp only [List.getElem_toArray, List.getElem_cons_zero, List.getElem_cons_succ, Act.put, List.setIfInBounds_toArray, List.set_cons_zero, List.set_cons_succ]
                  refine wpAnyL_take (i := 2) (oi := _) (v := ?v14) rfl (by kernel_rfl) (fun _ _ _ h => h) (by assumption) (Or.inl ⟨by kernel_rfl, ?y14⟩) ?r14
                  case y14 => (intro w hSw; (try dsimp only at hSw); go_simp; all_goals with_reducible rfl)
                  try simp only [List.getElem_toArray, List.getElem_cons_zero, List.getElem_cons_succ, Act.put, List.setIfInBounds_toArray, List.set_cons_zero, List.set_cons_succ]
                  refine wpAnyL_take (i := 3) (oi := _) (v := ?v15) rfl (by kernel_rfl) (fun _ _ _ h => h) (by assumption) (Or.inl ⟨by kernel_rfl, ?y15⟩) ?r15
                  case y15 => (intro w hSw; (try dsimp only at hSw); go_simp; all_goals with_reducible rfl)
                  try simp only [List.getElem_toArray, List.getElem_cons_zero, List.getElem_cons_succ, Act.put, List.setIfInBounds_toArray, List.set_cons_zero, List.set_cons_succ]
                  refine wpAnyL_step (j := 4) (o := _) (by kernel_rfl) rfl (fun K hK => ?_)
                  (go_simp; go_at_call 108; refine (CR.out _).mono ?_; rintro e w4 ⟨rfl, rfl⟩)
                  refine hK _ _ ?_ (fun hHeld => ?_)
                  · ((try dsimp only); (exact hHeld))
                  clear hK K
                  try simp only [List.getElem_toArray, List.getElem_cons_zero, List.getElem_cons_succ, Act.put, List.setIfInBounds_toArray, List.set_cons_zero, List.set_cons_succ]
                  refine wpAnyL_take (i := 5) (oi := _) (v := ?v17) rfl (by kernel_rfl) (fun _ _ _ h => h) (by assumption) (Or.inl ⟨by kernel_rfl, ?y17⟩) ?r17
                  case y17 => (intro w hSw; (try dsimp only at hSw); go_simp; all_goals with_reducible rfl)
                  try simp only [List.getElem_toArray, List.getElem_cons_zero, List.getElem_cons_succ, Act.put, List.setIfInBounds_toArray, List.set_cons_zero, List.set_cons_succ]
                  refine wpAnyL_take (i := 6) (oi := _) (v := ?v18) rfl (by kernel_rfl) (fun _ _ _ h => h) (by assumption) (Or.inl ⟨by kernel_rfl, ?y18⟩) ?r18
                  case y18 => (intro w hSw; (try dsimp only at hSw); go_simp; all_goals with_reducible rfl)
                  try simp only [List.getElem_toArray, List.getElem_cons_zero, List.getElem_cons_succ, Act.put, List.setIfInBounds_toArray, List.set_cons_zero, List.set_cons_succ]
                  refine wpAnyL_take (i := 7) (oi := _) (v := ?v19) rfl (by kernel_rfl) (fun _ _ _ h => h) (by assumption) (Or.inl ⟨by kernel_rfl, ?y19⟩) ?r19
                  case y19 => (intro w hSw; (try dsimp only at hSw); go_simp; all_goals with_reducible rfl)
                  try simp only [List.getElem_toArray, List.getElem_cons_zero, List.getElem_cons_succ, Act.put, List.setIfInBounds_toArray, List.set_cons_zero, List.set_cons_succ]
                  refine wpAnyL_take (i := 8) (oi := _) (v := ?v20) rfl (by kernel_rfl) (fun _ _ _ h => h) (by assumption) (Or.inl ⟨by kernel_rfl, ?y20⟩) ?r20
                  case y20 => (intro w hSw; (try dsimp only at hSw); go_simp; all_goals with_reducible rfl)
                  try simp only [List.getElem_toArray, List.getElem_cons_zero, List.getElem_cons_succ, Act.put, List.setIfInBounds_toArray, List.set_cons_zero, List.set_cons_succ]
                  refine wpAnyL_step (j := 9) (o := _) (by kernel_rfl) rfl (fun K hK => ?_)
                  (clear hHeld; obtain ⟨hf9, u9, hu9⟩ := HF9.out; go_simp; clear hf9 hu9)
                  refine hK _ _ ?_ (fun hHeld => ?_)
                  · ((try dsimp only); (first | with_reducible exact HSP.out _ _ HS7.out | with_reducible exact HSP.out _ _ (HS5.out _ HS6.out)))
                  clear hK K
                  try simp only [List.getElem_toArray, List.getElem_cons_zero, List.getElem_cons_succ, Act.put, List.setIfInBounds_toArray, List.set_cons_zero, List.set_cons_succ]
                  refine wpAnyL_last (j := 10) (o := _) (by kernel_rfl) rfl (by rfl) (by kernel_rfl) (fun K hK => ?_)
                  go_simp
                  (refine hK _ _ ?_; clear hK K)
                  try simp only [List.getElem_toArray, List.getElem_cons_zero, List.getElem_cons_succ, Act.put, List.setIfInBounds_toArray, List.set_cons_zero, List.set_cons_succ]
                  clear hHeld
                  obtain rfl := HNQ.out
                  cases pb with
                  | false =>
                    have HF : Hid (none = R) := Lib.hid (by have h := HRr.out; rw [← hrun2.out, HRO.out.2 rfl] at h; exact h)
                    obtain rfl := HF.out
                    clear HF HRr hrun2 HRO
                    have hq3 := HQ.out
                    obtain rfl | rfl | rfl : qo = 0 ∨ qo = 1 ∨ qo = 2 := by omega
                    all_goals
                      clear hq3
                      go_wp2_with fail
                      go_ret
                      exact ⟨rfl, HS7.out.fr⟩
                  | true =>
                    have hro := HRO.out.1 rfl
                    rw [hro] at hrun2
                    clear hro HRO
                    have hq3 := HQ.out
                    obtain rfl | rfl | rfl : qo = 0 ∨ qo = 1 ∨ qo = 2 := by omega
                    · clear hq3
                      go_wp2_with fail
                      go_roundw
                      case rel =>
                        first
                          | exact ⟨pos + 1, 0 + 1, 1, setReg o 0 pv, g, vg, rest2, rest.drop (pos + 1), rfl, Lib.hid rfl, Lib.hid ⟨hn2.out.1, by decide, hn2.out.2.2⟩, HS7, Lib.hid ⟨hdrop.out, rfl⟩, hpk3, hpc2, hrun2⟩
                          | ((repeat apply Exists.intro); exact ⟨⟨pos + 1, 0 + 1, 1, setReg o 0 pv, g, vg, rest2, rest.drop (pos + 1), rfl, Lib.hid rfl, Lib.hid ⟨hn2.out.1, by decide, hn2.out.2.2⟩, HS7, Lib.hid ⟨hdrop.out, rfl⟩, hpk3, hpc2, hrun2⟩, rfl⟩)
                      case measure => rw [iterPos_of HS7.out.i]; exact HMZ.out
                    · clear hq3
                      go_wp2_with fail
                      go_roundw
                      case rel =>
                        first
                          | exact ⟨pos + 1, 1 + 1, 2, setReg o 1 pv, g, vg, rest2, rest.drop (pos + 1), rfl, Lib.hid rfl, Lib.hid ⟨hn2.out.1, by decide, hn2.out.2.2⟩, HS7, Lib.hid ⟨hdrop.out, rfl⟩, hpk3, hpc2, hrun2⟩
                          | ((repeat apply Exists.intro); exact ⟨⟨pos + 1, 1 + 1, 2, setReg o 1 pv, g, vg, rest2, rest.drop (pos + 1), rfl, Lib.hid rfl, Lib.hid ⟨hn2.out.1, by decide, hn2.out.2.2⟩, HS7, Lib.hid ⟨hdrop.out, rfl⟩, hpk3, hpc2, hrun2⟩, rfl⟩)
                      case measure => rw [iterPos_of HS7.out.i]; exact HMZ.out
                    · clear hq3
                      go_wp2_with fail
                      go_roundw
                      case rel =>
                        first
                          | exact ⟨pos + 1, 2 + 1, 2, setReg o 2 pv, g, vg, rest2, rest.drop (pos + 1), rfl, Lib.hid rfl, Lib.hid ⟨hn2.out.1, by decide, hn2.out.2.2⟩, HS7, Lib.hid ⟨hdrop.out, rfl⟩, hpk3, hpc2, hrun2⟩
                          | ((repeat apply Exists.intro); exact ⟨⟨pos + 1, 2 + 1, 2, setReg o 2 pv, g, vg, rest2, rest.drop (pos + 1), rfl, Lib.hid rfl, Lib.hid ⟨hn2.out.1, by decide, hn2.out.2.2⟩, HS7, Lib.hid ⟨hdrop.out, rfl⟩, hpk3, hpc2, hrun2⟩, rfl⟩)
                      case measure => rw [iterPos_of HS7.out.i]; exact HMZ.out
                · have f2 : ((c.toNat : Int) == 114) = false := by simp only [beq_eq_false_iff_ne]; intro e; exact h114 (UInt8.toNat_inj.1 (by exact_mod_cast e))
                  have hcl : c = 110 ∨ c = 108 := by
                    have hm : c ∈ ps := List.mem_of_mem_drop (by rw [hdr.out.1]; exact List.mem_cons_self)
                    rcases HLT.out c hm with h | h | h | h
                    · exact absurd h h99
                    · exact absurd h h114
                    · exact .inl h
                    · exact .inr h
                  have hpk3 : Hid ((∀ p ∈ rest2, p.toNat < 128) ∧ q + rest2.count 114 ≤ 3) := Lib.hid ⟨hpk2.out, by have h := hpk.out.2; rw [List.count_cons_of_ne h114] at h; exact h⟩
                  have hrun2 : Hid ((if (parseV ⟨x.toArray⟩).2 = 0 then runParts { o with n := (parseV ⟨x.toArray⟩).1 } q g rest2 (rest.drop (pos + 1)) else if c = 108 ∧ labelB x = true then runParts o q (g ++ [x]) rest2 (rest.drop (pos + 1)) else none) = runParts ⟨K, 0, 0, 0, 0, 0⟩ 0 [] ps rest) := Lib.hid (by rw [← hrun.out, hxs.out, runParts_n _ _ _ _ _ _ _ h99 h114])
                  have CP := Lib.hid (parse_any ⟨x.toArray⟩ (by rw [show (⟨x.toArray⟩ : ByteArray).size = x.length by simp [ByteArray.size]]; have := hxl.out; omega) w9 (HG.out w9 (I9.out.fr.below (by rw [hX1]; have h := HX.out.1; have h2 := HNum.out.1; omega))).g)
                  have HRB : Hid (RB < w.heap.size ∧ w.heap.size ≤ Xo ∧ w.heap.size ≤ Xp ∧ MB < w.heap.size) := Lib.hid (by rw [hX1]; exact ⟨HX.out.1, HX.out.2.2.1, HX.out.2.2.2.1, HX.out.2.1⟩)
                  clear hrun hxs hpk hpc hpk2 hdr h99 h114
                  rcases parseV_cases x with ⟨pn, hpn⟩ | hpn
                  · rw [hpn] at CP hrun2
                    have hrun3 : Hid (runParts { o with n := pn } q g rest2 (rest.drop (pos + 1)) = runParts ⟨K, 0, 0, 0, 0, 0⟩ 0 [] ps rest) := Lib.hid (by have h := hrun2.out; rw [if_pos rfl] at h; exact h)
                    clear hrun2 hpn
                    rcases hcl with rfl | rfl
                    · skip
                      have hwp1 := HWP.out
                      go_wp2_with (go_at_call 109; refine CP.out.mono ?_; rintro e w10 ⟨rfl, hb10⟩; have I10 := Lib.hid (I9.out.below hb10); have hu5 := cell_of I10.out.o 5; have hf5 := frz_of I10.out.o 5; simp only [List.getElem?_toArray, List.getElem?_cons_zero, List.getElem?_cons_succ] at hu5)
                      have hI5 : Hid (InSt H RB MB Xo Xp Xi w r line ps (pos + 1) { o with n := pn } g vl vg (w10.setCell ⟨Xo, 5, none⟩ (.int .i64 pn))) := Lib.hid (I10.out.setO HRB.out.2.1 HRB.out.1 HRB.out.2.2.2 5 (.int .i64 pn) _ rfl)
                      go_roundw
                      case rel =>
                        first
                          | exact ⟨pos + 1, q, qo, { o with n := pn }, g, vg, rest2, rest.drop (pos + 1), rfl, hqo, hn2, hI5, Lib.hid ⟨hdrop.out, rfl⟩, hpk3, hpc2, hrun3⟩
                          | ((repeat apply Exists.intro); exact ⟨⟨pos + 1, q, qo, { o with n := pn }, g, vg, rest2, rest.drop (pos + 1), rfl, hqo, hn2, hI5, Lib.hid ⟨hdrop.out, rfl⟩, hpk3, hpc2, hrun3⟩, rfl⟩)
                      case measure => rw [iterPos_of hI5.out.i]; exact HMZ.out
                    · skip
                      have hwp1 := HWP.out
                      go_wp2_with (go_at_call 109; refine CP.out.mono ?_; rintro e w10 ⟨rfl, hb10⟩; have I10 := Lib.hid (I9.out.below hb10); have hu5 := cell_of I10.out.o 5; have hf5 := frz_of I10.out.o 5; simp only [List.getElem?_toArray, List.getElem?_cons_zero, List.getElem?_cons_succ] at hu5)
                      have hI5 : Hid (InSt H RB MB Xo Xp Xi w r line ps (pos + 1) { o with n := pn } g vl vg (w10.setCell ⟨Xo, 5, none⟩ (.int .i64 pn))) := Lib.hid (I10.out.setO HRB.out.2.1 HRB.out.1 HRB.out.2.2.2 5 (.int .i64 pn) _ rfl)
                      go_roundw
                      case rel =>
                        first
                          | exact ⟨pos + 1, q, qo, { o with n := pn }, g, vg, rest2, rest.drop (pos + 1), rfl, hqo, hn2, hI5, Lib.hid ⟨hdrop.out, rfl⟩, hpk3, hpc2, hrun3⟩
                          | ((repeat apply Exists.intro); exact ⟨⟨pos + 1, q, qo, { o with n := pn }, g, vg, rest2, rest.drop (pos + 1), rfl, hqo, hn2, hI5, Lib.hid ⟨hdrop.out, rfl⟩, hpk3, hpc2, hrun3⟩, rfl⟩)
                      case measure => rw [iterPos_of hI5.out.i]; exact HMZ.out
                  · rw [hpn] at CP hrun2
                    have hrun3 : Hid ((if c = 108 ∧ labelB x = true then runParts o q (g ++ [x]) rest2 (rest.drop (pos + 1)) else none) = runParts ⟨K, 0, 0, 0, 0, 0⟩ 0 [] ps rest) := Lib.hid (by have h := hrun2.out; rw [if_neg (by decide)] at h; exact h)
                    clear hrun2 hpn
                    rcases hcl with rfl | rfl
                    · have HF : Hid ((none : Option Rd) = R) := Lib.hid (by have h := HRr.out; rw [← hrun3.out, if_neg (fun h => absurd h.1 (by decide))] at h; exact h)
                      obtain rfl := HF.out
                      clear HF HRr hrun3
                      have hwp1 := HWP.out
                      go_wp2_with (go_at_call 109; refine CP.out.mono ?_; rintro e w10 ⟨rfl, hb10⟩)
                      go_ret
                      exact ⟨rfl, I9.out.fr.trans (.ofBelow hb10)⟩
                    · have CL := Lib.hid (fun W => label_any x (by have := hxl.out; omega) W)
                      cases hlb : labelB x with
                      | false =>
                        rw [hlb] at CL
                        have HF : Hid ((none : Option Rd) = R) := Lib.hid (by have h := HRr.out; rw [← hrun3.out, if_neg (fun h => by rw [hlb] at h; exact absurd h.2 (by decide))] at h; exact h)
                        obtain rfl := HF.out
                        clear HF HRr hrun3 hlb
                        have hwp1 := HWP.out
                        go_wp2_with (first | (go_at_call 109; refine CP.out.mono ?_; rintro e w10 ⟨rfl, hb10⟩) | (go_at_call 16; refine (CL.out _).mono ?_; rintro e w11 ⟨rfl, hb11⟩))
                        go_ret
                        exact ⟨rfl, (I9.out.fr.trans (.ofBelow hb10)).trans (.ofBelow hb11)⟩
                      | true =>
                        rw [hlb] at CL
                        have hrun4 : Hid (runParts o q (g ++ [x]) rest2 (rest.drop (pos + 1)) = runParts ⟨K, 0, 0, 0, 0, 0⟩ 0 [] ps rest) := Lib.hid (by have h := hrun3.out; rw [if_pos ⟨rfl, hlb⟩] at h; exact h)
                        have hwp1 := HWP.out
                        obtain ⟨i0, hi0, hz0, hz1, hz2⟩ := info_parts infoGoal
                        obtain ⟨Al, cl, rfl⟩ := own_slice I9.out.rd.ops
                        clear hrun3 hlb
                        go_wp2_with (first | (go_at_call 109; refine CP.out.mono ?_; rintro e w10 ⟨rfl, hb10⟩) | (go_at_call 16; refine (CL.out _).mono ?_; rintro e w11 ⟨rfl, hb11⟩))
                        have I11 := Lib.hid ((I9.out.below hb10).below hb11)
                        have HSg : Hid (∀ W, Below w11.heap.size w11 W → GoS RB (.slice Al r.ops.length cl) vg W) := Lib.hid fun W hb => (I11.out.below hb).gos
                        have HRo := Lib.hid (fun W (hb : Below w11.heap.size w11 W) => (I11.out.below hb).rd.goals)
                        have HA := Lib.hid (fun (w4 w5 : World) (v' : Value) hb hg ho => I11.out.goal (w4 := w4) (w5 := w5) (v' := v') HNum.out.1 HRB.out.1 HRB.out.2.1 HRB.out.2.2.1 x hb hg ho)
                        have hgl : Hid (r.goals.length + g.length ≤ 200000) := Lib.hid (by have h1 := HNum.out.2.2.2.1; have h2 := hn2.out.2.2; have h3 := HX.out.2.2.2.2.2; have h4 := hn2.out.1; omega)
                        have HBs : Hid (H ≤ w11.heap.size) := Lib.hid (by have h1 := HNum.out.1; have h2 := I11.out.rd.lt; omega)
                        have HMS : Hid (w11.iterPos Xi = pos + 1) := Lib.hid (iterPos_of I11.out.i)
                        clear CP CL hb10 hb11 I9 hnx hw9 hwp1 p1 p2
                        refine wp_region_L (l := 17) (S := (GoS RB (.slice Al r.ops.length cl) vg)) (by kernel_rfl) ?_ (fun hHeld => ?_)
                        · ((try dsimp only); (exact HSg.out _ (Below.refl _ _).drew))
                        refine wpAnyL_take (i := 0) (oi := _) (v := ?v23) rfl (by kernel_rfl) (fun _ _ _ h => h) (by assumption) (Or.inl ⟨by kernel_rfl, ?y23⟩) ?r23
                        case y23 => (intro w hSw; (try dsimp only at hSw); go_simp; all_goals with_reducible rfl)
                        try simp only [List.getElem_toArray, List.getElem_cons_zero, List.getElem_cons_succ, Act.put, List.setIfInBounds_toArray, List.set_cons_zero, List.set_cons_succ]
                        refine wpAnyL_take (i := 1) (oi := _) (v := ?v24) rfl (by kernel_rfl) (fun _ _ _ h => h) (by assumption) (Or.inl ⟨by kernel_rfl, ?y24⟩) ?r24
                        case y24 => (intro w hSw; (try dsimp only at hSw); go_simp; all_goals with_reducible rfl)
                        try simp only [List.getElem_toArray, List.getElem_cons_zero, List.getElem_cons_succ, Act.put, List.setIfInBounds_toArray, List.set_cons_zero, List.set_cons_succ]
                        refine wpAnyL_take (i := 2) (oi := _) (v := ?v25) rfl (by kernel_rfl) (fun _ _ _ h => h) (by assumption) (Or.inl ⟨by kernel_rfl, ?y25⟩) ?r25
                        case y25 => (intro w hSw; (try dsimp only at hSw); go_simp; all_goals with_reducible rfl)
                        try simp only [List.getElem_toArray, List.getElem_cons_zero, List.getElem_cons_succ, Act.put, List.setIfInBounds_toArray, List.set_cons_zero, List.set_cons_succ]
                        refine wpAnyL_take (i := 3) (oi := _) (v := ?v26) rfl (by kernel_rfl) (fun _ _ _ h => h) (by assumption) (Or.inl ⟨by kernel_rfl, ?y26⟩) ?r26
                        case y26 => (intro w hSw; (try dsimp only at hSw); go_simp; all_goals with_reducible rfl)
                        try simp only [List.getElem_toArray, List.getElem_cons_zero, List.getElem_cons_succ, Act.put, List.setIfInBounds_toArray, List.set_cons_zero, List.set_cons_succ]
                        refine wpAnyL_take (i := 4) (oi := _) (v := ?v27) rfl (by kernel_rfl) (fun _ _ _ h => h) (by assumption) (Or.inl ⟨by kernel_rfl, ?y27⟩) ?r27
                        case y27 => (intro w hSw; (try dsimp only at hSw); go_simp; all_goals with_reducible rfl)
                        try simp only [List.getElem_toArray, List.getElem_cons_zero, List.getElem_cons_succ, Act.put, List.setIfInBounds_toArray, List.set_cons_zero, List.set_cons_succ]
                        refine wpAnyL_take (i := 5) (oi := _) (v := ?v28) rfl (by kernel_rfl) (fun _ _ _ h => h) (by assumption) (Or.inl ⟨by kernel_rfl, ?y28⟩) ?r28
                        case y28 => (intro w hSw; (try dsimp only at hSw); go_simp; all_goals with_reducible rfl)
                        try simp only [List.getElem_toArray, List.getElem_cons_zero, List.getElem_cons_succ, Act.put, List.setIfInBounds_toArray, List.set_cons_zero, List.set_cons_succ]
                        refine wpAnyL_take (i := 6) (oi := _) (v := ?v29) rfl (by kernel_rfl) (fun _ _ _ h => h) (by assumption) (Or.inl ⟨by kernel_rfl, ?y29⟩) ?r29
                        case y29 => (intro w hSw; (try dsimp only at hSw); go_simp; all_goals with_reducible rfl)
                        try simp only [List.getElem_toArray, List.getElem_cons_zero, List.getElem_cons_succ, Act.put, List.setIfInBounds_toArray, List.set_cons_zero, List.set_cons_succ]
                        refine wpAnyL_take (i := 7) (oi := _) (v := ?v30) rfl (by kernel_rfl) (fun _ _ _ h => h) (by assumption) (Or.inl ⟨by kernel_rfl, ?y30⟩) ?r30
                        case y30 => (intro w hSw; (try dsimp only at hSw); go_simp; all_goals with_reducible rfl)
                        try simp only [List.getElem_toArray, List.getElem_cons_zero, List.getElem_cons_succ, Act.put, List.setIfInBounds_toArray, List.set_cons_zero, List.set_cons_succ]
                        refine wpAnyL_take (i := 8) (oi := _) (v := ?v31) rfl (by kernel_rfl) (fun _ _ _ h => h) (by assumption) (Or.inl ⟨by kernel_rfl, ?y31⟩) ?r31
                        case y31 => (intro w hSw; (try dsimp only at hSw); go_simp; all_goals with_reducible rfl)
                        try simp only [List.getElem_toArray, List.getElem_cons_zero, List.getElem_cons_succ, Act.put, List.setIfInBounds_toArray, List.set_cons_zero, List.set_cons_succ]
                        refine wpAnyL_take (i := 9) (oi := _) (v := ?v32) rfl (by kernel_rfl) (fun _ _ _ h => h) (by assumption) (Or.inl ⟨by kernel_rfl, ?y32⟩) ?r32
                        case y32 => (intro w hSw; (try dsimp only at hSw); go_simp; all_goals with_reducible rfl)
                        try simp only [List.getElem_toArray, List.getElem_cons_zero, List.getElem_cons_succ, Act.put, List.setIfInBounds_toArray, List.set_cons_zero, List.set_cons_succ]
                        refine wpAnyL_take (i := 10) (oi := _) (v := ?v33) rfl (by kernel_rfl) (fun _ _ _ h => h) (by assumption) (Or.inl ⟨by kernel_rfl, ?y33⟩) ?r33
                        case y33 => (intro w hSw; (try dsimp only at hSw); go_simp; all_goals with_reducible rfl)
                        try simp only [List.getElem_toArray, List.getElem_cons_zero, List.getElem_cons_succ, Act.put, List.setIfInBounds_toArray, List.set_cons_zero, List.set_cons_succ]
                        refine wpAnyL_take (i := 11) (oi := _) (v := ?v34) rfl (by kernel_rfl) (fun _ _ _ h => h) (by assumption) (Or.inl ⟨by kernel_rfl, ?y34⟩) ?r34
                        case y34 => (intro w hSw; (try dsimp only at hSw); go_simp; all_goals with_reducible rfl)
                        try simp only [List.getElem_toArray, List.getElem_cons_zero, List.getElem_cons_succ, Act.put, List.setIfInBounds_toArray, List.set_cons_zero, List.set_cons_succ]
                        refine wpAnyL_take (i := 12) (oi := _) (v := ?v35) rfl (by kernel_rfl) (fun _ _ _ h => h) (by assumption) (Or.inl ⟨by kernel_rfl, ?y35⟩) ?r35
                        case y35 => (intro w hSw; (try dsimp only at hSw); go_simp; all_goals with_reducible rfl)
                        try simp only [List.getElem_toArray, List.getElem_cons_zero, List.getElem_cons_succ, Act.put, List.setIfInBounds_toArray, List.set_cons_zero, List.set_cons_succ]
                        refine wpAnyL_step (j := 13) (o := _) (by kernel_rfl) rfl (fun K hK => ?_)
                        (go_simp; have hB4 := Lib.hid (fun o => ((Below.refl w11.heap.size w11).drew).alloc (Nat.le_refl _) o))
                        refine hK _ _ ?_ (fun hHeld => ?_)
                        · ((try dsimp only); (exact HSg.out _ (hB4.out _)))
                        clear hK K
                        try simp only [List.getElem_toArray, List.getElem_cons_zero, List.getElem_cons_succ, Act.put, List.setIfInBounds_toArray, List.set_cons_zero, List.set_cons_succ]
                        refine wpAnyL_step (j := 14) (o := _) (by kernel_rfl) rfl (fun K hK => ?_)
                        (refine wp_append_own_at _ _ 61 rfl H 75 i0 _ 3 32 Tryz.underlying61 hi0 hz0 hz1 hz2 rfl (by decide) vg _ _ rfl (HRo.out _ (hB4.out _)) ⟨w11.heap.size, 0, none⟩ 1 1 (goalCells (r.ops.length, line, x)) rfl rfl (World.news_of_block (heap_alloc_new w11.drew _)) (by simp [goalCells, Value.oneCell']) (by have := hgl.out; simp only [List.length_append, List.length_map]; unfold maxLen; omega) (by have := hgl.out; simp only [List.length_append, List.length_map]; omega) (Nat.le_trans HBs.out (hB4.out _).size) ?_; intro v' w5 hown' hgrow hat; simp only [List.length_append, List.length_map] at hown'; obtain ⟨gg, cp, rfl⟩ : ∃ gg cp, v' = .slice (some ⟨gg, 0, none⟩) (r.goals.length + g.length + 1) cp := (hown'.2.elim (fun h => absurd h.2 (by omega)) (fun ⟨gg, cp, cur, h, _⟩ => ⟨gg, cp, h⟩)); have hG := Lib.hid (HA.out _ _ _ (hB4.out _) hgrow hown'); obtain ⟨⟨c0, f0⟩, -⟩ := hG.out; clear hown' hgrow hat)
                        refine hK _ _ ?_ (fun hHeld => ?_)
                        · ((try dsimp only); (exact ⟨hG.out.2.1, hG.out.1.1⟩))
                        clear hK K
                        try simp only [List.getElem_toArray, List.getElem_cons_zero, List.getElem_cons_succ, Act.put, List.setIfInBounds_toArray, List.set_cons_zero, List.set_cons_succ]
                        refine wpAnyL_take (i := 15) (oi := _) (v := ?v38) rfl (by kernel_rfl) (fun _ _ _ h => h) (by assumption) (Or.inl ⟨by kernel_rfl, ?y38⟩) ?r38
                        case y38 => (intro w hSw; (try dsimp only at hSw); go_simp; all_goals with_reducible rfl)
                        try simp only [List.getElem_toArray, List.getElem_cons_zero, List.getElem_cons_succ, Act.put, List.setIfInBounds_toArray, List.set_cons_zero, List.set_cons_succ]
                        refine wpAnyL_take (i := 16) (oi := _) (v := ?v39) rfl (by kernel_rfl) (fun _ _ _ h => h) (by assumption) (Or.inl ⟨by kernel_rfl, ?y39⟩) ?r39
                        case y39 => (intro w hSw; (try dsimp only at hSw); go_simp; all_goals with_reducible rfl)
                        try simp only [List.getElem_toArray, List.getElem_cons_zero, List.getElem_cons_succ, Act.put, List.setIfInBounds_toArray, List.set_cons_zero, List.set_cons_succ]
                        refine wpAnyL_last (j := 17) (o := _) (by kernel_rfl) rfl (by rfl) (by kernel_rfl) (fun K hK => ?_)
                        go_simp
                        (refine hK _ _ ?_; clear hK K)
                        try simp only [List.getElem_toArray, List.getElem_cons_zero, List.getElem_cons_succ, Act.put, List.setIfInBounds_toArray, List.set_cons_zero, List.set_cons_succ]
                        have hI5 := Lib.hid hG.out.2.2
                        clear hG HSg HRo HA hB4 c0 f0 hHeld hi0 hz0 hz1 hz2 HBs
                        have hn3 : Hid (pos + 1 + rest2.length = ps.length ∧ q ≤ 3 ∧ (g ++ [x]).length ≤ pos + 1) := Lib.hid ⟨hn2.out.1, hn2.out.2.1, by have h := hgm.out; simp only [List.length_append, List.length_singleton]; omega⟩
                        go_wp2_with fail
                        go_roundw
                        case rel =>
                          first
                            | exact ⟨pos + 1, q, qo, o, g ++ [x], _, rest2, rest.drop (pos + 1), rfl, hqo, hn3, hI5, Lib.hid ⟨hdrop.out, rfl⟩, hpk3, hpc2, hrun4⟩
                            | ((repeat apply Exists.intro); exact ⟨⟨pos + 1, q, qo, o, g ++ [x], _, rest2, rest.drop (pos + 1), rfl, hqo, hn3, hI5, Lib.hid ⟨hdrop.out, rfl⟩, hpk3, hpc2, hrun4⟩, rfl⟩)
                        case measure => rw [iterPos_of hI5.out.i]; exact HMZ.out
        · have t1 : (((rest.length : Int) + 1) != (1 + (ps.length : Int))) = true := len_other hl
          have hwp := wrap_one hpl
          have HF : Hid ((none : Option Rd) = R) := Lib.hid (by have h := HRr.out; rw [if_neg hl] at h; exact h)
          obtain rfl := HF.out
          clear HF HRr hl HR HWc HP0 hK hps hpl HG HLn
          go_wp2_with fail
          go_ret
          exact ⟨rfl, FrB.ofBelow HBr.out⟩
end Go.Proofs.YtkkcngppmhebbaaGreatDoor
