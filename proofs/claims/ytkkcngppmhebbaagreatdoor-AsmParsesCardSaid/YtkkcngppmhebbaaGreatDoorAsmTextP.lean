/-
  The text of instructions, part by part; plain.
-/
import Derived.Test.YtkkcngppmhebbaaGreatDoorAsmWords
set_option linter.unusedVariables false
set_option linter.unusedSimpArgs false
namespace Go.Proofs.YtkkcngppmhebbaaGreatDoor
open Go.RowKit

def regAt (o : Cmd) (q : Nat) : Int := if q = 0 then o.a else if q = 1 then o.b else o.d
def partGo (o : Cmd) : Nat → List UInt8 → List UInt8
  | _, [] => []
  | q, p :: ps => if p = 99 then 32 :: (calcW o.c ++ partGo o q ps) else if p = 114 then regText (regAt o q) ++ partGo o (q + 1) ps else 32 :: (Lib.itoa o.n ++ partGo o q ps)
theorem textOp_parts (o : Cmd) (f : Form) (h : formV o.k = some f) : textOp o = kindW o.k ++ partGo o 0 (partsV o.k) ++ [10] := by
  obtain ⟨k, c, a, b, d, n⟩ := o
  dsimp only at h
  rcases formV_cases k with (rfl | rfl | rfl | rfl | rfl | rfl | rfl | rfl | rfl | rfl | rfl | rfl | rfl | rfl | rfl) | ⟨h0, -⟩
  all_goals first | (rw [h0] at h; cases h) | skip
  all_goals simp [textOp, partsV, formV, partGo, regText, regAt, List.replicate]
structure PartOk (o : Cmd) (q : Nat) (ps : List UInt8) : Prop where
  c : ∀ p ∈ ps, p = 99 → 1 ≤ o.c ∧ o.c ≤ 14
  r : q + ps.count 114 ≤ 3
  a : ∀ p ∈ ps, p.toNat < 128
theorem PartOk.start {o : Cmd} (h : okV o = true) (hc : 0 ≤ o.c) : PartOk o 0 (partsV o.k) := by
  obtain ⟨k, c, a, b, d, n⟩ := o
  obtain ⟨f, hf, -⟩ := okV_all h
  rw [okV_of hf] at h
  dsimp only at hf hc ⊢
  simp only [Bool.and_eq_true, beq_iff_eq, decide_eq_true_eq] at h
  obtain ⟨⟨⟨⟨⟨h1, h2⟩, -⟩, -⟩, -⟩, -⟩ := h
  rcases formV_cases k with (rfl | rfl | rfl | rfl | rfl | rfl | rfl | rfl | rfl | rfl | rfl | rfl | rfl | rfl | rfl) | ⟨h0, -⟩
  all_goals first | (rw [h0] at hf; cases hf; done) | (obtain rfl := (Option.some.inj hf).symm)
  all_goals
    refine ⟨fun p hp hp9 => ?_, by decide, by decide⟩
    first
      | (subst hp9; exact absurd hp (by decide))
      | (have hne : c ≠ 0 := fun e => by rw [e] at h1; exact absurd h1 (by decide)
         exact ⟨by show 1 ≤ c; omega, h2⟩)
theorem PartOk.next {o : Cmd} {q : Nat} {p : UInt8} {ps : List UInt8} (h : PartOk o q (p :: ps)) : PartOk o (if p = 114 then q + 1 else q) ps :=
  ⟨fun x hx => h.c x (List.mem_cons_of_mem _ hx), by
    have := h.r
    by_cases hp : p = 114
    · rw [if_pos hp]; subst hp; rw [List.count_cons_self] at this; omega
    · rw [if_neg hp]; rw [List.count_cons_of_ne hp] at this; exact this, fun x hx => h.a x (List.mem_cons_of_mem _ hx)⟩
theorem itoa_len (n : Int) (h1 : -9223372036854775808 ≤ n) (h2 : n ≤ 9223372036854775807) : (Lib.itoa n).length ≤ 21 := by
  unfold Lib.itoa
  split
  · have := decDigits_len 19 n.natAbs (by omega)
    simp only [List.length_cons]; omega
  · have := decDigits_len 19 n.toNat (by omega)
    omega
theorem calcW_len (c : Int) : (calcW c).length ≤ 3 := by
  unfold calcW
  generalize c.toNat - 1 = i
  have : ∀ i, i < 14 → (calcWords.getD i []).length ≤ 3 := by decide
  by_cases hi : i < 14
  · exact this i hi
  · rw [List.getD, List.getElem?_eq_none (by show 14 ≤ i; omega)]; simp
theorem kindW_len (k : Int) : (kindW k).length ≤ 5 := by
  unfold kindW
  generalize k.toNat - 1 = i
  have : ∀ i, i < 15 → (kindWords.getD i []).length ≤ 5 := by decide
  by_cases hi : i < 15
  · exact this i hi
  · rw [List.getD, List.getElem?_eq_none (by show 15 ≤ i; omega)]; simp
theorem kindW_min {k : Int} {f : Form} (h : formV k = some f) : 3 ≤ (kindW k).length := by
  rcases formV_cases k with (rfl | rfl | rfl | rfl | rfl | rfl | rfl | rfl | rfl | rfl | rfl | rfl | rfl | rfl | rfl) | ⟨h0, -⟩
  all_goals first | (rw [h0] at h; cases h; done) | decide
theorem Cmd.Wf.reg {o : Cmd} (h : o.Wf) (q : Nat) : 0 ≤ regAt o q ∧ regAt o q ≤ 255 := by
  unfold regAt; split
  · exact h.a
  · split
    · exact h.b
    · exact h.d
theorem partGo_len {o : Cmd} (h : o.Wf) : ∀ (ps : List UInt8) (q : Nat), (partGo o q ps).length ≤ 23 * ps.length
  | [], _ => Nat.le_refl _
  | p :: ps, q => by
    unfold partGo
    have i1 := partGo_len h ps q
    have i2 := partGo_len h ps (q + 1)
    have l1 := calcW_len o.c
    have l2 := itoa_len o.n h.n.1 h.n.2
    have l3 := itoa_len (regAt o q) (by have := h.reg q; omega) (by have := h.reg q; omega)
    split
    · simp only [List.length_cons, List.length_append]; omega
    · split
      · simp only [regText, List.length_cons, List.length_append]; omega
      · simp only [List.length_cons, List.length_append]; omega
theorem partsV_len (k : Int) : (partsV k).length ≤ 4 := by
  rcases formV_cases k with (rfl | rfl | rfl | rfl | rfl | rfl | rfl | rfl | rfl | rfl | rfl | rfl | rfl | rfl | rfl) | ⟨h0, -⟩
  all_goals first | decide | (unfold partsV; rw [h0]; decide)
theorem textGo_step (t : List UInt8) (o : Cmd) (l : List Cmd) (f : Form) (h : formV o.k = some f) : textGo t (o :: l) = if (t ++ kindW o.k ++ partGo o 0 (partsV o.k) ++ [10]).length > 65536 then none else textGo (t ++ kindW o.k ++ partGo o 0 (partsV o.k) ++ [10]) l := by
  rw [textGo, textOp_parts o f h]
  simp only [List.append_assoc]
theorem calc_at (c : Int) (h1 : 1 ≤ c) (h2 : c ≤ 14) : calcCells[(c - 1).toNat]? = some (.string ⟨(calcW c).toArray⟩) := by
  have key : ∀ i, i < 14 → calcCells[i]? = some (.string ⟨(calcWords.getD i []).toArray⟩) := by
    intro i hi
    unfold calcCells
    have hl : i < calcWords.length := hi
    rw [List.getElem?_map, List.getD, List.getElem?_eq_getElem hl]; rfl
  rw [key _ (by omega)]
  unfold calcW
  rw [show (c - 1).toNat = c.toNat - 1 by omega]
end Go.Proofs.YtkkcngppmhebbaaGreatDoor
