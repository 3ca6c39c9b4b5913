/-
  Rows of the call's own, and lists in memory: laws of use in many texts.
-/
import Derived.Test.YtjaegddnikkibaaGreatDoorAttBase
import Derived.Test.YtjaegddnikkibaaGreatDoorOrdPlain
import Derived.Test.YtjaegddnikkibaaGreatDoorRowKit
import Derived.Laws.CopyOwn
import Derived.Laws.OwnMore
import Derived.Deep.OwnRows
set_option linter.unusedVariables false
set_option linter.unusedSimpArgs false
namespace Go.Proofs.YtjaegddnikkibaaGreatDoor
open Go.RowKit Go.Sort

theorem AttsAt.at {w : World} {B b off : Nat} {l : List Att} (h : AttsAt w B (some ⟨b, off, none⟩) l) {k : Nat} {x : Att} (hx : l[k]? = some x) : AttAt w b (off + k * 8) x := by
  obtain ⟨b', off', he, -, hc⟩ := h.row (by rintro rfl; simp at hx)
  injection he with he
  injection he with he1 he2
  subst he1; subst he2
  exact hc k x hx
theorem EvsAt.at {w : World} {B b off : Nat} {l : List Ev} (h : EvsAt w B (some ⟨b, off, none⟩) l) {k : Nat} {x : Ev} (hx : l[k]? = some x) : EvAt w b (off + k * 4) x := by
  obtain ⟨b', off', he, -, hc⟩ := h (by rintro rfl; simp at hx)
  injection he with he
  injection he with he1 he2
  subst he1; subst he2
  exact hc k x hx
theorem intsAt_own {w : World} {base : Nat} {v : Value} {o : List Int} (h : w.ownsRow base 3 1 v o.length (o.map (Value.int .i64))) : ∃ A c, v = .slice A o.length c ∧ IntsAt w A o := by
  rcases h.2 with ⟨rfl, hn⟩ | ⟨g, cap, cur, rfl, hg, hb, r⟩
  · have : o = [] := List.eq_nil_of_length_eq_zero hn
    subst this
    exact ⟨none, 0, rfl, fun h => absurd rfl h⟩
  · refine ⟨some ⟨g, 0, none⟩, cap, rfl, fun _ => ⟨g, 0, rfl, (Array.getElem?_eq_some_iff.1 hb).1, fun k x hk => ?_⟩⟩
    have hlt : k < o.length := (List.getElem?_eq_some_iff.1 hk).1
    rw [Nat.zero_add, h.cellAt k (by omega), List.getElem?_map, hk]; rfl

theorem attInfo : (Tryz.prog.info? 74).map (fun i => (i.zero, i.size, i.bytes)) = some (some (.agg #[.int .i64 0, .int .u8 0, .int .i64 0, .int .i64 0, .int .i64 0, .int .i64 0, .bool false, .slice none 0 0]), 8, 80) := by kernel_rfl
theorem attsAt_own {w : World} {base : Nat} {v : Value} {l : List Att} (h : w.ownsRow base 74 8 v l.length (l.flatMap Att.cells)) (he : ∀ x ∈ l, EvsAt w w.heap.size x.dA x.evs) : ∃ A c, v = .slice A l.length c ∧ AttsAt w w.heap.size A l := by
  rcases h.2 with ⟨rfl, hn⟩ | ⟨g, cap, cur, rfl, hg, hb, r⟩
  · have : l = [] := List.eq_nil_of_length_eq_zero hn
    subst this
    exact ⟨none, 0, rfl, fun h => absurd rfl h, he⟩
  · refine ⟨some ⟨g, 0, none⟩, cap, rfl, fun _ => ⟨g, 0, rfl, (Array.getElem?_eq_some_iff.1 hb).1, fun k x hk => ?_⟩, he⟩
    have hlt : k < l.length := (List.getElem?_eq_some_iff.1 hk).1
    have key : ∀ j, j < 8 → w.cell? ⟨g, 0 + k * 8 + j, none⟩ = x.cells[j]? := fun j hj => by
      rw [Nat.zero_add, h.cellAt (k * 8 + j) (by omega)]
      exact flat_at Att.cells 8 (fun _ => rfl) l k j x hk hj
    exact ⟨key 0 (by decide), key 1 (by decide), key 2 (by decide), key 3 (by decide), key 4 (by decide), key 5 (by decide), key 6 (by decide), key 7 (by decide)⟩
theorem length_le_total : ∀ (l : List Att), l.length ≤ totalSize l
  | [] => Nat.le_refl _
  | x :: r => by
    have := length_le_total r
    simp only [List.length_cons, totalSize]; omega

end Go.Proofs.YtjaegddnikkibaaGreatDoor
