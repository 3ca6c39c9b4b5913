/-
  Rows of the call's own; no program in sight.
-/
import Derived.WalkKit
import Derived.Laws.CopyOwn
import Derived.Laws.OwnMore
import Derived.Below
import Derived.Deep.QuietTactic
set_option linter.unusedVariables false
set_option linter.unusedSimpArgs false
namespace Go.Proofs.YtkklogikakcanaaDoor
open Go Go.RowKit

theorem flat_at {α : Type} (f : α → List Value) (n : Nat) (hf : ∀ x, (f x).length = n) : ∀ (l : List α) (k j : Nat) (t : α), l[k]? = some t → j < n → (l.flatMap f)[k * n + j]? = (f t)[j]?
  | [], k, j, t, h, _ => by simp at h
  | x :: l, 0, j, t, h, hj => by
    simp only [List.getElem?_cons_zero, Option.some.injEq] at h
    subst h
    rw [List.flatMap_cons, List.getElem?_append_left (by rw [hf]; omega)]
    simp
  | x :: l, k + 1, j, t, h, hj => by
    rw [List.getElem?_cons_succ] at h
    rw [List.flatMap_cons, List.getElem?_append_right (by rw [hf]; simp [Nat.add_mul]; omega)]
    rw [show (k + 1) * n + j - (f x).length = k * n + j by rw [hf]; simp [Nat.add_mul]; omega]
    exact flat_at f n hf l k j t h hj
theorem own_drewN {w : World} {B e size n : Nat} {v : Value} {xs : List Value} (h : w.ownsRow B e size v n xs) (q : Nat) : (w.drewN q).ownsRow B e size v n xs := h
theorem own_ne {w : World} {B1 B2 e1 e2 k1 k2 n1 n2 : Nat} {v1 v2 : Value} {x1 x2 : List Value} (h1 : w.ownsRow B1 e1 k1 v1 n1 x1) (h2 : w.ownsRow B2 e2 k2 v2 n2 x2) (hne : e1 ≠ e2) : ∀ g, v1.ownBlock = some g → v2.ownBlock ≠ some g := by
  intro g hg1 hg2
  rcases h1.2 with ⟨rfl, -⟩ | ⟨g1, cap1, cur1, rfl, -, hb1, -⟩
  · cases hg1
  rcases h2.2 with ⟨rfl, -⟩ | ⟨g2, cap2, cur2, rfl, -, hb2, -⟩
  · cases hg2
  injection hg1 with hg1
  injection hg2 with hg2
  subst hg1; subst hg2
  rw [hb1] at hb2
  injection hb2 with hb2
  injection hb2 with _ hb2
  exact hne hb2
theorem own_keptBy {w w' : World} {B e k n : Nat} {v : Value} {xs : List Value} {row : Option Nat} (h : w.ownsRow B e k v n xs) (hg : w.grownBy w' row) (hne : ∀ g, v.ownBlock = some g → row ≠ some g) : w'.ownsRow B e k v n xs :=
  h.kept hg (by
    cases hob : v.ownBlock with
    | none => exact Or.inl rfl
    | some g => exact Or.inr (fun e => hne g hob e.symm))
theorem own_belowI {w w' : World} {B e size n : Nat} {v : Value} {xs : List Value} (h : w.ownsRow B e size v n xs) (hb : Below w.heap.size w w') : w'.ownsRow B e size v n xs := by
  rcases h.2 with ⟨rfl, hn⟩ | ⟨g, cap, cur, rfl, hg, hbk, r⟩
  · exact ⟨h.1, Or.inl ⟨rfl, hn⟩⟩
  · exact ⟨h.1, Or.inr ⟨g, cap, cur, rfl, hg, (hb.block g (Array.getElem?_eq_some_iff.1 hbk).1).trans hbk, r⟩⟩
end Go.Proofs.YtkklogikakcanaaDoor
