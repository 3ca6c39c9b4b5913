/-
  Package asm: the reader's state in memory; what a reading keeps.
-/
import Derived.Test.YtkkcngppmhebbaaGreatDoorAsmRun
import Derived.Test.YtkkcngppmhebbaaGreatDoorStrMap
import Derived.Test.YtkkcngppmhebbaaGreatDoorBookPlain
import Derived.Lib.OthersKept
import Derived.Test.YtkkcngppmhebbaaGreatDoorIsaEncode
set_option linter.unusedVariables false
set_option linter.unusedSimpArgs false
namespace Go.Proofs.YtkkcngppmhebbaaGreatDoor
open Go.RowKit

def goalCells (g : Nat × Nat × List UInt8) : List Value := [.int .i64 g.1, .int .i64 g.2.1, .string ⟨g.2.2.toArray⟩]
/-- the reader: its struct in block RB, its map in block MB, its two rows from block H on -/
structure RdAt (H RB MB : Nat) (r : Rd) (vl vg : Value) (W : World) : Prop where
  blk : W.heap[RB]? = some (.cells #[vl, .map (some MB), vg] 63 (0, 0))
  ops : W.ownsRow H 79 6 vl r.ops.length (r.ops.flatMap Cmd.cells)
  goals : W.ownsRow H 75 3 vg r.goals.length (r.goals.flatMap goalCells)
  map : StrMap Tryz.prog 9 3 W MB r.labels.length (fun x => (lookV x r.labels).map Int.ofNat)
def RdIs (H RB MB : Nat) (r : Rd) (W : World) : Prop := ∃ vl vg, RdAt H RB MB r vl vg W
theorem RdAt.lt {H RB MB : Nat} {r : Rd} {vl vg : Value} {W : World} (h : RdAt H RB MB r vl vg W) : RB < W.heap.size := (Array.getElem?_eq_some_iff.1 h.blk).1
theorem RdAt.below {H RB MB : Nat} {r : Rd} {vl vg : Value} {W w' : World} (h : RdAt H RB MB r vl vg W) (hb : Below W.heap.size W w') : RdAt H RB MB r vl vg w' :=
  ⟨(hb.block RB h.lt).trans h.blk, own_belowI h.ops hb, own_belowI h.goals hb, h.map.below hb h.map.lt⟩
theorem RdIs.below {H RB MB : Nat} {r : Rd} {W w' : World} (h : RdIs H RB MB r W) (hb : Below W.heap.size W w') : RdIs H RB MB r w' := by
  obtain ⟨vl, vg, h⟩ := h
  exact ⟨vl, vg, h.below hb⟩
/-- what a reading may turn: instructions' rows, goals' rows, readers -/
def okT (t : TypeId) : Bool := t == 79 || t == 75 || t == 63

theorem blk_set {w : World} {X : Nat} {cs : Array Value} {T : TypeId} {fz : Nat × Nat} (h : w.heap[X]? = some (.cells cs T fz)) (j : Nat) (u : Value) : (w.setCell ⟨X, j, none⟩ u).heap[X]? = some (.cells (cs.setIfInBounds j u) T fz) := by
  simp [World.setCell, Array.getElem?_modify, h]
theorem blk_set_ne {w : World} {X Y : Nat} {o : Obj} (h : w.heap[X]? = some o) (hne : X ≠ Y) (j : Nat) (u : Value) : (w.setCell ⟨Y, j, none⟩ u).heap[X]? = some o := by
  rw [Below.heap_setCell _ _ _ _ hne]; exact h
theorem frz_of {w : World} {X : Nat} {cs : Array Value} {T : TypeId} (h : w.heap[X]? = some (.cells cs T (0, 0))) (j : Nat) : w.frozen? ⟨X, j, none⟩ = false := by
  simp [World.frozen?, h]

/-! ### which kind a word names -/
theorem kindOf_iff (w : List UInt8) : ∀ i, i < 15 → (kindW ((i + 1 : Nat) : Int) = w ↔ kindOf w = ((i + 1 : Nat) : Int)) := by
  intro i hi
  constructor
  · intro h
    subst h
    have key : ∀ i, i < 15 → kindOf (kindW ((i + 1 : Nat) : Int)) = ((i + 1 : Nat) : Int) := by decide +kernel
    exact key i hi
  · intro h
    have key : ∀ (l : List (List UInt8)) (s n : Nat), findV w l s = some n → s ≤ n ∧ l[n - s]? = some w := by
      intro l
      induction l with
      | nil => intro s n h; cases h
      | cons x l ih =>
        intro s n h
        unfold findV at h
        split at h
        · rename_i hx
          injection h with h
          subst h
          exact ⟨Nat.le_refl _, by rw [Nat.sub_self]; simp [hx]⟩
        · obtain ⟨h1, h2⟩ := ih (s + 1) n h
          refine ⟨by omega, ?_⟩
          rw [show n - s = (n - (s + 1)) + 1 by omega, List.getElem?_cons_succ]
          exact h2
    unfold kindOf at h
    cases hf : findV w kindWords 1 with
    | none => rw [hf] at h; simp at h; omega
    | some n =>
      rw [hf] at h
      have hn : n = i + 1 := by simp at h; omega
      subst hn
      have := (key kindWords 1 (i + 1) hf).2
      rw [Nat.add_sub_cancel] at this
      unfold kindW
      rw [Int.toNat_natCast, Nat.add_sub_cancel, List.getD, this]
      rfl
theorem kindOf_cases (w : List UInt8) : kindOf w = 0 ∨ ∃ i, i < 15 ∧ kindOf w = ((i + 1 : Nat) : Int) := by
  have key : ∀ (l : List (List UInt8)) (s n : Nat), findV w l s = some n → s ≤ n ∧ n < s + l.length := by
    intro l
    induction l with
    | nil => intro s n h; cases h
    | cons x l ih =>
      intro s n h
      unfold findV at h
      split at h
      · injection h with h
        subst h
        simp
      · obtain ⟨h1, h2⟩ := ih (s + 1) n h
        simp only [List.length_cons]
        omega
  unfold kindOf
  cases hf : findV w kindWords 1 with
  | none => exact .inl rfl
  | some n =>
    obtain ⟨h1, h2⟩ := key kindWords 1 n hf
    have h3 : kindWords.length = 15 := rfl
    exact .inr ⟨n - 1, by omega, by simp; omega⟩
/-- the kind that has been found behind j shapes -/
def upTo (K : Int) (j : Nat) : Int := if K ≤ (j : Int) then K else 0
theorem upTo_zero {w : List UInt8} : upTo (kindOf w) 0 = 0 := by
  unfold upTo
  rcases kindOf_cases w with h | ⟨i, hi, h⟩
  · rw [h]; rfl
  · rw [h, if_neg (by omega)]
theorem upTo_all {w : List UInt8} : upTo (kindOf w) 15 = kindOf w := by
  unfold upTo
  rcases kindOf_cases w with h | ⟨i, hi, h⟩
  · rw [h]; rfl
  · rw [h, if_pos (by omega)]
theorem upTo_hit {w : List UInt8} {j : Nat} (hj : j < 15) (h : kindW ((j + 1 : Nat) : Int) = w) : upTo (kindOf w) (j + 1) = ((j + 1 : Nat) : Int) := by
  rw [(kindOf_iff w j hj).1 h]
  unfold upTo
  rw [if_pos (by omega)]
theorem upTo_miss {w : List UInt8} {j : Nat} (hj : j < 15) (h : kindW ((j + 1 : Nat) : Int) ≠ w) : upTo (kindOf w) (j + 1) = upTo (kindOf w) j := by
  have hne : kindOf w ≠ ((j + 1 : Nat) : Int) := fun e => h ((kindOf_iff w j hj).2 e)
  unfold upTo
  by_cases h1 : kindOf w ≤ (j : Int)
  · rw [if_pos h1, if_pos (by omega)]
  · rw [if_neg h1, if_neg (by omega)]
theorem calcOf_iff (w : List UInt8) : ∀ i, i < 14 → (calcW ((i + 1 : Nat) : Int) = w ↔ calcOf w = ((i + 1 : Nat) : Int)) := by
  intro i hi
  constructor
  · intro h
    subst h
    have key : ∀ i, i < 14 → calcOf (calcW ((i + 1 : Nat) : Int)) = ((i + 1 : Nat) : Int) := by decide +kernel
    exact key i hi
  · intro h
    have key : ∀ (l : List (List UInt8)) (s n : Nat), findV w l s = some n → s ≤ n ∧ l[n - s]? = some w := by
      intro l
      induction l with
      | nil => intro s n h; cases h
      | cons x l ih =>
        intro s n h
        unfold findV at h
        split at h
        · rename_i hx
          injection h with h
          subst h
          exact ⟨Nat.le_refl _, by rw [Nat.sub_self]; simp [hx]⟩
        · obtain ⟨h1, h2⟩ := ih (s + 1) n h
          refine ⟨by omega, ?_⟩
          rw [show n - s = (n - (s + 1)) + 1 by omega, List.getElem?_cons_succ]
          exact h2
    unfold calcOf at h
    cases hf : findV w calcWords 1 with
    | none => rw [hf] at h; simp at h; omega
    | some n =>
      rw [hf] at h
      have hn : n = i + 1 := by simp at h; omega
      subst hn
      have := (key calcWords 1 (i + 1) hf).2
      rw [Nat.add_sub_cancel] at this
      unfold calcW
      rw [Int.toNat_natCast, Nat.add_sub_cancel, List.getD, this]
      rfl
theorem calcOf_cases (w : List UInt8) : calcOf w = 0 ∨ ∃ i, i < 14 ∧ calcOf w = ((i + 1 : Nat) : Int) := by
  have key : ∀ (l : List (List UInt8)) (s n : Nat), findV w l s = some n → s ≤ n ∧ n < s + l.length := by
    intro l
    induction l with
    | nil => intro s n h; cases h
    | cons x l ih =>
      intro s n h
      unfold findV at h
      split at h
      · injection h with h
        subst h
        simp
      · obtain ⟨h1, h2⟩ := ih (s + 1) n h
        simp only [List.length_cons]
        omega
  unfold calcOf
  cases hf : findV w calcWords 1 with
  | none => exact .inl rfl
  | some n =>
    obtain ⟨h1, h2⟩ := key calcWords 1 n hf
    have h3 : calcWords.length = 14 := rfl
    exact .inr ⟨n - 1, by omega, by simp; omega⟩
theorem cupTo_zero {w : List UInt8} : upTo (calcOf w) 0 = 0 := by
  unfold upTo
  rcases calcOf_cases w with h | ⟨i, hi, h⟩
  · rw [h]; rfl
  · rw [h, if_neg (by omega)]
theorem cupTo_all {w : List UInt8} : upTo (calcOf w) 14 = calcOf w := by
  unfold upTo
  rcases calcOf_cases w with h | ⟨i, hi, h⟩
  · rw [h]; rfl
  · rw [h, if_pos (by omega)]
theorem cupTo_hit {w : List UInt8} {j : Nat} (hj : j < 14) (h : calcW ((j + 1 : Nat) : Int) = w) : upTo (calcOf w) (j + 1) = ((j + 1 : Nat) : Int) := by
  rw [(calcOf_iff w j hj).1 h]
  unfold upTo
  rw [if_pos (by omega)]
theorem cupTo_miss {w : List UInt8} {j : Nat} (hj : j < 14) (h : calcW ((j + 1 : Nat) : Int) ≠ w) : upTo (calcOf w) (j + 1) = upTo (calcOf w) j := by
  have hne : calcOf w ≠ ((j + 1 : Nat) : Int) := fun e => h ((calcOf_iff w j hj).2 e)
  unfold upTo
  by_cases h1 : calcOf w ≤ (j : Int)
  · rw [if_pos h1, if_pos (by omega)]
  · rw [if_neg h1, if_neg (by omega)]

theorem own_of_block {W W' : World} {B e k n : Nat} {v : Value} {xs : List Value} (h : W.ownsRow B e k v n xs) (hb : ∀ g, v.ownBlock = some g → W'.heap[g]? = W.heap[g]?) : W'.ownsRow B e k v n xs := by
  rcases h.2 with ⟨rfl, hn⟩ | ⟨g, cap, cur, rfl, hg, hbk, r⟩
  · exact ⟨h.1, .inl ⟨rfl, hn⟩⟩
  · exact ⟨h.1, .inr ⟨g, cap, cur, rfl, hg, (hb g rfl).trans hbk, r⟩⟩
theorem own_kind {W : World} {B e k n : Nat} {v : Value} {xs : List Value} (h : W.ownsRow B e k v n xs) {g : Nat} (hg : v.ownBlock = some g) : B ≤ g ∧ ∃ cs, W.heap[g]? = some (.cells cs e (0, 0)) := by
  rcases h.2 with ⟨rfl, hn⟩ | ⟨g', cap, cur, rfl, hB, hbk, r⟩
  · cases hg
  · injection hg with hg
    subst hg
    exact ⟨hB, cur, hbk⟩
/-- one block turned that is none of the reader's -/
theorem RdAt.off {H RB MB : Nat} {r : Rd} {vl vg : Value} {W W' : World} (h : RdAt H RB MB r vl vg W) (X : Nat) (hk : ∀ k, k ≠ X → W'.heap[k]? = W.heap[k]?) (h1 : X ≠ RB) (h2 : vl.ownBlock ≠ some X) (h3 : vg.ownBlock ≠ some X) (h4 : X ≠ MB) : RdAt H RB MB r vl vg W' :=
  ⟨(hk _ (Ne.symm h1)).trans h.blk, own_of_block h.ops (fun g hg => hk g (fun e => h2 (by rw [hg, e]))), own_of_block h.goals (fun g hg => hk g (fun e => h3 (by rw [hg, e]))), h.map.of_block (hk _ (Ne.symm h4))⟩
/-- a change of new blocks alone -/
theorem FrB.newer {B : Nat} {ok : TypeId → Bool} {w W W' : World} (h : FrB B ok w W) (ho : W'.os = W.os) (ht : W'.tape = W.tape) (hp : W'.output = W.output) (hs : W.heap.size ≤ W'.heap.size) (hk : ∀ k, k < w.heap.size → W'.heap[k]? = W.heap[k]?) : FrB B ok w W' :=
  ⟨ho.trans h.os, ht.trans h.tape, hp.trans h.output, Nat.le_trans h.size hs, fun i hi hc => (hk i hi).trans (h.block i hi hc)⟩
theorem setCell_heap (W : World) (X j : Nat) (u : Value) : ∀ k, k ≠ X → (W.setCell ⟨X, j, none⟩ u).heap[k]? = W.heap[k]? := fun k hk => Below.heap_setCell _ _ _ _ hk
theorem FrB.setNew {B : Nat} {ok : TypeId → Bool} {w W : World} (h : FrB B ok w W) (X j : Nat) (hX : w.heap.size ≤ X) (u : Value) : FrB B ok w (W.setCell ⟨X, j, none⟩ u) :=
  h.newer rfl rfl rfl (by simp [World.setCell]) (fun k hk => setCell_heap W X j u k (by omega))

/-- the state within an instruction's parts -/
structure InSt (H RB MB Xo Xp Xi : Nat) (w : World) (r : Rd) (line : Nat) (ps : List UInt8) (pos : Nat) (o : Cmd) (g : List (List UInt8)) (vl vg : Value) (W : World) : Prop where
  rd : RdAt H RB MB { r with goals := r.goals ++ g.map fun x => (r.ops.length, line, x) } vl vg W
  lo : ∀ k, vl.ownBlock = some k → k < w.heap.size
  o : W.heap[Xo]? = some (.cells #[.int .u8 o.k, .int .u8 o.c, .int .u8 o.a, .int .u8 o.b, .int .u8 o.d, .int .i64 o.n] 79 (0, 0))
  p : W.heap[Xp]? = some (.cells #[.pointer (some ⟨Xo, 2, none⟩), .pointer (some ⟨Xo, 3, none⟩), .pointer (some ⟨Xo, 4, none⟩)] 106 (0, 0))
  i : W.heap[Xi]? = some (.stringIter ⟨ps.toArray⟩ pos)
  fr : FrB H okT w W
section
variable {H RB MB Xo Xp Xi : Nat} {w : World} {r : Rd} {line : Nat} {ps : List UInt8} {pos : Nat} {o : Cmd} {g : List (List UInt8)} {vl vg : Value} {W W' : World}
theorem InSt.below (h : InSt H RB MB Xo Xp Xi w r line ps pos o g vl vg W) (hb : Below W.heap.size W W') : InSt H RB MB Xo Xp Xi w r line ps pos o g vl vg W' :=
  ⟨h.rd.below hb, h.lo, blk_below h.o hb, blk_below h.p hb, blk_below h.i hb, h.fr.trans (.ofBelow hb)⟩
theorem InSt.next (h : InSt H RB MB Xo Xp Xi w r line ps pos o g vl vg W) (hi : w.heap.size ≤ Xi) (hRB : RB < w.heap.size) (hMB : MB < w.heap.size) (pos' : Nat) : InSt H RB MB Xo Xp Xi w r line ps pos' o g vl vg (W.iterAt Xi ⟨ps.toArray⟩ pos') := by
  have hk : ∀ k, k ≠ Xi → (W.iterAt Xi ⟨ps.toArray⟩ pos').heap[k]? = W.heap[k]? := fun k hk => Lib.iterAt_other _ _ _ _ _ hk
  have n1 : Xo ≠ Xi := fun e => by have := h.o; rw [e, h.i] at this; cases this
  have n2 : Xp ≠ Xi := fun e => by have := h.p; rw [e, h.i] at this; cases this
  refine ⟨h.rd.off Xi hk (by omega) (fun e => by have := h.lo _ e; omega) (fun e => ?_) (by omega), h.lo, (hk _ n1).trans h.o, (hk _ n2).trans h.p, Lib.iterAt_heap _ _ _ _ _ h.i, h.fr.newer rfl rfl rfl (by rw [Lib.iterAt_size]; exact Nat.le_refl _) (fun k hlt => hk k (by omega))⟩
  obtain ⟨-, cs, hcs⟩ := own_kind h.rd.goals e
  rw [h.i] at hcs; cases hcs
/-- a store into the instruction's box -/
theorem InSt.setO (h : InSt H RB MB Xo Xp Xi w r line ps pos o g vl vg W) (ho : w.heap.size ≤ Xo) (hRB : RB < w.heap.size) (hMB : MB < w.heap.size) (j : Nat) (u : Value) (o2 : Cmd)
    (he : (#[.int .u8 o.k, .int .u8 o.c, .int .u8 o.a, .int .u8 o.b, .int .u8 o.d, .int .i64 o.n] : Array Value).setIfInBounds j u = #[.int .u8 o2.k, .int .u8 o2.c, .int .u8 o2.a, .int .u8 o2.b, .int .u8 o2.d, .int .i64 o2.n]) :
    InSt H RB MB Xo Xp Xi w r line ps pos o2 g vl vg (W.setCell ⟨Xo, j, none⟩ u) := by
  have hk := setCell_heap W Xo j u
  have n1 : Xi ≠ Xo := fun e => by have := h.o; rw [← e, h.i] at this; cases this
  have n2 : Xp ≠ Xo := fun e => by have := h.o; rw [← e, h.p] at this; injection this with this; injection this with _ this; exact absurd this (by decide)
  refine ⟨h.rd.off Xo hk (by omega) (fun e => by have := h.lo _ e; omega) (fun e => ?_) (by omega), h.lo, ?_, (hk _ n2).trans h.p, (hk _ n1).trans h.i, h.fr.setNew Xo j ho u⟩
  · obtain ⟨-, cs, hcs⟩ := own_kind h.rd.goals e
    rw [h.o] at hcs; injection hcs with hcs; injection hcs with _ hcs; exact absurd hcs (by decide)
  · have := blk_set h.o j u
    rw [he] at this; exact this
theorem InSt.drewN (h : InSt H RB MB Xo Xp Xi w r line ps pos o g vl vg W) (n : Nat) : InSt H RB MB Xo Xp Xi w r line ps pos o g vl vg (W.drewN n) := h.below (below_drewN _ _ _)
end
theorem insV_run (r : Rd) (w0 : List UInt8) (rest : List (List UInt8)) (line : Nat) : insV r w0 rest line = match formV (kindOf w0) with
    | none => none
    | some _ => if rest.length = (partsV (kindOf w0)).length then (match runParts ⟨kindOf w0, 0, 0, 0, 0, 0⟩ 0 [] (partsV (kindOf w0)) rest with
      | some (o, g) => if okV o then some { r with ops := r.ops ++ [o], goals := r.goals ++ g.map fun w => (r.ops.length, line, w) } else none
      | none => none) else none := by
  unfold insV
  rw [cmdV_run]
  cases formV (kindOf w0) with
  | none => rfl
  | some f =>
    dsimp only
    by_cases hl : rest.length = (partsV (kindOf w0)).length
    · rw [if_pos hl, if_pos hl]
      cases runParts ⟨kindOf w0, 0, 0, 0, 0, 0⟩ 0 [] (partsV (kindOf w0)) rest with
      | none => rfl
      | some p =>
        obtain ⟨o, g⟩ := p
        dsimp only
        cases okV o <;> rfl
    · rw [if_neg hl, if_neg hl]
end Go.Proofs.YtkkcngppmhebbaaGreatDoor
