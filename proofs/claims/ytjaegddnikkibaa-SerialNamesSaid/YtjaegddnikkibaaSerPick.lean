/-
  Order, check and words of those that committed; plain.
-/
import Derived.Test.YtjaegddnikkibaaPick
import Derived.Test.YtjaegddnikkibaaSerPlain
set_option linter.unusedVariables false
set_option linter.unusedSimpArgs false
namespace Go.Proofs.Ytjaegddnikkibaa
open Go.RowKit Go.Sort Go.Maps

def allQ : Att → Bool := fun _ => true
theorem filter_all (l : List Int) : l.filter (fun _ => true) = l := List.filter_eq_self.2 (fun _ _ => rfl)
theorem order_all (l : List Att) : (orderV (pick allQ l)).map (wasN allQ l) = orderV l := by
  rw [order_pick]; exact filter_all _
theorem order_all_len (l : List Att) : (orderV l).length = (pick allQ l).length := by
  rw [← order_all, List.length_map]
  have h1 := (sortB_perm (stB id (ltN (pick allQ l))) (committed 0 (pick allQ l))).length_eq
  have h2 : (committed 0 (pick allQ l)).length = (pick allQ l).length := by
    rw [committed_range _ _ (fun x hx => (pick_kd hx).2.1), List.length_map, List.length_range']
  unfold orderV
  omega
theorem order_all_at {l : List Att} {i : Nat} (hi : i < (orderV l).length) : ∃ j : Nat, (∃ hp : i < (orderV (pick allQ l)).length, (orderV (pick allQ l))[i] = (j : Int)) ∧ j < (pick allQ l).length ∧ (wasL allQ 0 l)[j]? = some (orderV l)[i] := by
  have hlen : (orderV (pick allQ l)).length = (orderV l).length := by rw [← order_all l, List.length_map]
  have hp : i < (orderV (pick allQ l)).length := by omega
  obtain ⟨j, hj, hjl⟩ := orderV_idx (List.getElem_mem hp)
  refine ⟨j, ⟨hp, hj⟩, hjl, ?_⟩
  have e := order_all l
  have h1 : (orderV l)[i] = ((orderV (pick allQ l)).map (wasN allQ l))[i]'(by rw [List.length_map]; exact hp) := by
    congr 1; exact e.symm
  rw [h1, List.getElem_map, hj, wasN_get hjl, List.getElem?_eq_getElem]
theorem order_places {l : List Att} {i : Nat} (h0 : 0 < i) (hi : i < (orderV l).length) : (attN l ((orderV l)[i - 1]'(by omega))).pl ≤ (attN l (orderV l)[i]).pl := by
  have hs : (orderV l).Pairwise (fun p q => stB id (ltN l) q p = false) := sortB_sorted (stB_swo (nm := id) (ltN_swo l)) (committed 0 l)
  have h1 := List.pairwise_iff_getElem.1 hs (i - 1) i (by omega) hi (by omega)
  unfold stB at h1
  simp only [Bool.or_eq_false_iff] at h1
  have h2 := h1.1
  unfold ltN aheadB at h2
  simp only [Bool.or_eq_false_iff, decide_eq_false_iff_not] at h2
  have := h2.1
  omega
theorem leastV_pick {l s : List Att} {was : Int → Int} : ∀ (r : List Int), (∀ i ∈ r, attN s i = attN l (was i)) → leastV l (r.map was) = leastV s r
  | [], _ => rfl
  | n :: r, h => by
    rw [List.map_cons]
    unfold leastV
    rw [leastV_pick r (fun i hi => h i (by simp [hi])), h n (by simp)]
theorem scheckGo_pick {l s : List Att} {was : Int → Int} : ∀ (o : List Int) (p : Option Int) (h : Int → Int), (∀ i ∈ o, attN s i = attN l (was i)) → (∀ i, p = some i → attN s i = attN l (was i)) →
    scheckGo l (p.map was) (o.map was) h = (scheckGo s p o h).map was
  | [], _, _, _, _ => rfl
  | n :: r, p, h, ho, hp => by
    rw [List.map_cons]
    have e1 := ho n (by simp)
    have e2 := leastV_pick (l := l) (s := s) r (fun i hi => ho i (by simp [hi]))
    have e3 : twinB l (p.map was) (attN l (was n)) = twinB s p (attN s n) := by
      unfold twinB
      cases p with
      | none => rfl
      | some q => simp only [Option.map_some, ← hp q rfl, e1]
    have ih := scheckGo_pick r (some n) (doV h (attN s n).evs) (fun i hi => ho i (by simp [hi])) (fun i hi => by injection hi with hi; subst hi; exact e1)
    unfold scheckGo
    have e4 : orderedB l (p.map was) (attN l (was n)) (r.map was) h = orderedB s p (attN s n) r h := by
      unfold orderedB
      rw [e2, e3, e1]
    rw [e4, ← e1]
    split
    · exact ih
    · rfl
theorem scheck_all {l : List Att} (h : checkedV l = 0) : (scheckV (pick allQ l)).2 = (scheckV l).2 ∧ ((scheckV l).2 = 16 → ∃ j : Nat, (scheckV (pick allQ l)).1 = (j : Int) ∧ j < (pick allQ l).length ∧ (wasL allQ 0 l)[j]? = some (scheckV l).1) := by
  have hp := checkedV_pick allQ h
  have key := scheckGo_pick (l := l) (s := pick allQ l) (was := wasN allQ l) (orderV (pick allQ l)) none (fun _ => 0) (fun i hi => by
    obtain ⟨j, rfl, hj⟩ := orderV_idx hi
    exact wasN_att hj) (fun i hi => by cases hi)
  rw [order_all, Option.map_none] at key
  unfold scheckV
  rw [if_pos h, if_pos hp, key]
  cases hs : scheckGo (pick allQ l) none (orderV (pick allQ l)) (fun _ => 0) with
  | none => exact ⟨rfl, fun h => by cases h⟩
  | some n =>
    refine ⟨rfl, fun _ => ?_⟩
    have hmem : ∀ (o : List Int) (p : Option Int) (g : Int → Int), scheckGo (pick allQ l) p o g = some n → n ∈ o := by
      intro o
      induction o with
      | nil => intro p g h; cases h
      | cons i r ih =>
        intro p g h
        unfold scheckGo at h
        split at h
        · exact List.mem_cons_of_mem _ (ih _ _ h)
        · injection h with h; subst h; simp
    obtain ⟨j, rfl, hj⟩ := orderV_idx (hmem _ _ _ hs)
    refine ⟨j, rfl, hj, ?_⟩
    show _ = some (wasN allQ l (j : Int))
    rw [wasN_get hj, List.getElem?_eq_getElem]
theorem words_all (l : List Att) : allK (pick allQ l) (orderV (pick allQ l)) = allK l (orderV l) := by
  rw [allK_pick]
  have : (orderV l).filter (fun i => allQ (attN l i)) = orderV l := filter_all _
  rw [this]; rfl
end Go.Proofs.Ytjaegddnikkibaa
