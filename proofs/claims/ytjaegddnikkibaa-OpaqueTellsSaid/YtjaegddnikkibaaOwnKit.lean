/-
  Rows of the call's own, and lists in memory: laws of use in many texts.
-/
import Derived.Test.YtjaegddnikkibaaAttBase
import Derived.Test.YtjaegddnikkibaaOrdPlain
import Derived.Laws.CopyOwn
import Derived.Laws.OwnMore
import Derived.Deep.OwnRows
set_option linter.unusedVariables false
set_option linter.unusedSimpArgs false
namespace Go.Proofs.Ytjaegddnikkibaa
open Go.RowKit Go.Sort

theorem flat_at {α : Type} (f : α → List Value) (n : Nat) (hf : ∀ x, (f x).length = n) : ∀ (l : List α) (k j : Nat) (t : α), l[k]? = some t → j < n → (l.flatMap f)[k * n + j]? = (f t)[j]?
  | [], k, j, t, h, _ => by simp at h
  | x :: l, 0, j, t, h, hj => by
    simp only [List.getElem?_cons_zero, Option.some.injEq] at h
    subst h
    rw [List.flatMap_cons, List.getElem?_append_left (by rw [hf]; omega)]
    simp
  | x :: l, k + 1, j, t, h, hj => by
    rw [List.getElem?_cons_succ] at h
    rw [List.flatMap_cons, List.getElem?_append_right (by rw [hf]; simp [Nat.add_mul]; omega)]
    rw [show (k + 1) * n + j - (f x).length = k * n + j by rw [hf]; simp [Nat.add_mul]; omega]
    exact flat_at f n hf l k j t h hj
theorem AttsAt.at {w : World} {B b off : Nat} {l : List Att} (h : AttsAt w B (some ⟨b, off, none⟩) l) {k : Nat} {x : Att} (hx : l[k]? = some x) : AttAt w b (off + k * 8) x := by
  obtain ⟨b', off', he, -, hc⟩ := h.row (by rintro rfl; simp at hx)
  injection he with he
  injection he with he1 he2
  subst he1; subst he2
  exact hc k x hx
theorem EvsAt.at {w : World} {B b off : Nat} {l : List Ev} (h : EvsAt w B (some ⟨b, off, none⟩) l) {k : Nat} {x : Ev} (hx : l[k]? = some x) : EvAt w b (off + k * 4) x := by
  obtain ⟨b', off', he, -, hc⟩ := h (by rintro rfl; simp at hx)
  injection he with he
  injection he with he1 he2
  subst he1; subst he2
  exact hc k x hx
theorem own_drewN {w : World} {B e size n : Nat} {v : Value} {xs : List Value} (h : w.ownsRow B e size v n xs) (q : Nat) : (w.drewN q).ownsRow B e size v n xs := h
theorem own_ne {w : World} {B1 B2 e1 e2 k1 k2 n1 n2 : Nat} {v1 v2 : Value} {x1 x2 : List Value} (h1 : w.ownsRow B1 e1 k1 v1 n1 x1) (h2 : w.ownsRow B2 e2 k2 v2 n2 x2) (hne : e1 ≠ e2) : ∀ g, v1.ownBlock = some g → v2.ownBlock ≠ some g := by
  intro g hg1 hg2
  rcases h1.2 with ⟨rfl, -⟩ | ⟨g1, cap1, cur1, rfl, -, hb1, -⟩
  · cases hg1
  rcases h2.2 with ⟨rfl, -⟩ | ⟨g2, cap2, cur2, rfl, -, hb2, -⟩
  · cases hg2
  injection hg1 with hg1
  injection hg2 with hg2
  subst hg1; subst hg2
  rw [hb1] at hb2
  injection hb2 with hb2
  injection hb2 with _ hb2
  exact hne hb2
theorem own_keptBy {w w' : World} {B e k n : Nat} {v : Value} {xs : List Value} {row : Option Nat} (h : w.ownsRow B e k v n xs) (hg : w.grownBy w' row) (hne : ∀ g, v.ownBlock = some g → row ≠ some g) : w'.ownsRow B e k v n xs :=
  h.kept hg (by
    cases hob : v.ownBlock with
    | none => exact Or.inl rfl
    | some g => exact Or.inr (fun e => hne g hob e.symm))
theorem intsAt_own {w : World} {base : Nat} {v : Value} {o : List Int} (h : w.ownsRow base 3 1 v o.length (o.map (Value.int .i64))) : ∃ A c, v = .slice A o.length c ∧ IntsAt w A o := by
  rcases h.2 with ⟨rfl, hn⟩ | ⟨g, cap, cur, rfl, hg, hb, r⟩
  · have : o = [] := List.eq_nil_of_length_eq_zero hn
    subst this
    exact ⟨none, 0, rfl, fun h => absurd rfl h⟩
  · refine ⟨some ⟨g, 0, none⟩, cap, rfl, fun _ => ⟨g, 0, rfl, (Array.getElem?_eq_some_iff.1 hb).1, fun k x hk => ?_⟩⟩
    have hlt : k < o.length := (List.getElem?_eq_some_iff.1 hk).1
    rw [Nat.zero_add, h.cellAt k (by omega), List.getElem?_map, hk]; rfl

theorem own_belowI {w w' : World} {B e size n : Nat} {v : Value} {xs : List Value} (h : w.ownsRow B e size v n xs) (hb : Below w.heap.size w w') : w'.ownsRow B e size v n xs := by
  rcases h.2 with ⟨rfl, hn⟩ | ⟨g, cap, cur, rfl, hg, hbk, r⟩
  · exact ⟨h.1, Or.inl ⟨rfl, hn⟩⟩
  · exact ⟨h.1, Or.inr ⟨g, cap, cur, rfl, hg, (hb.block g (Array.getElem?_eq_some_iff.1 hbk).1).trans hbk, r⟩⟩
theorem attInfo : (Try.prog.info? 35).map (fun i => (i.zero, i.size, i.bytes)) = some (some (.agg #[.int .i64 0, .int .u8 0, .int .i64 0, .int .i64 0, .int .i64 0, .int .i64 0, .bool false, .slice none 0 0]), 8, 80) := by kernel_rfl
theorem attsAt_own {w : World} {base : Nat} {v : Value} {l : List Att} (h : w.ownsRow base 35 8 v l.length (l.flatMap Att.cells)) (he : ∀ x ∈ l, EvsAt w w.heap.size x.dA x.evs) : ∃ A c, v = .slice A l.length c ∧ AttsAt w w.heap.size A l := by
  rcases h.2 with ⟨rfl, hn⟩ | ⟨g, cap, cur, rfl, hg, hb, r⟩
  · have : l = [] := List.eq_nil_of_length_eq_zero hn
    subst this
    exact ⟨none, 0, rfl, fun h => absurd rfl h, he⟩
  · refine ⟨some ⟨g, 0, none⟩, cap, rfl, fun _ => ⟨g, 0, rfl, (Array.getElem?_eq_some_iff.1 hb).1, fun k x hk => ?_⟩, he⟩
    have hlt : k < l.length := (List.getElem?_eq_some_iff.1 hk).1
    have key : ∀ j, j < 8 → w.cell? ⟨g, 0 + k * 8 + j, none⟩ = x.cells[j]? := fun j hj => by
      rw [Nat.zero_add, h.cellAt (k * 8 + j) (by omega)]
      exact flat_at Att.cells 8 (fun _ => rfl) l k j x hk hj
    exact ⟨key 0 (by decide), key 1 (by decide), key 2 (by decide), key 3 (by decide), key 4 (by decide), key 5 (by decide), key 6 (by decide), key 7 (by decide)⟩
theorem length_le_total : ∀ (l : List Att), l.length ≤ totalSize l
  | [] => Nat.le_refl _
  | x :: r => by
    have := length_le_total r
    simp only [List.length_cons, totalSize]; omega

end Go.Proofs.Ytjaegddnikkibaa
