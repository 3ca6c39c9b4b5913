/-
  The order of some of the attempts that committed; plain.
-/
import Derived.Test.YtjaegddnikkibaaWordsPlain
import Derived.Test.YtjaegddnikkibaaWrites
set_option linter.unusedVariables false
set_option linter.unusedSimpArgs false
namespace Go.Proofs.Ytjaegddnikkibaa
open Go.RowKit Go.Sort Go.Maps

def pickB (q : Att → Bool) (x : Att) : Bool := decide (x.kd = 1) && q x
def pick (q : Att → Bool) (l : List Att) : List Att := l.filter (pickB q)
def wasL (q : Att → Bool) : Nat → List Att → List Int
  | _, [] => []
  | k, x :: r => if pickB q x then (k : Int) :: wasL q (k + 1) r else wasL q (k + 1) r
theorem pick_take {q : Att → Bool} {l : List Att} {k : Nat} (h : k < l.length) : pick q (l.take (k + 1)) = pick q (l.take k) ++ (if pickB q l[k] then [l[k]] else []) := by
  unfold pick
  rw [List.take_succ_eq_append_getElem h, List.filter_append]
  congr 1
  rw [List.filter_cons, List.filter_nil]
theorem wasL_append (q : Att → Bool) : ∀ (a b : List Att) (n : Nat), wasL q n (a ++ b) = wasL q n a ++ wasL q (n + a.length) b
  | [], b, n => by simp [wasL]
  | x :: a, b, n => by
    have ih := wasL_append q a b (n + 1)
    rw [show n + 1 + a.length = n + (x :: a).length by rw [List.length_cons]; omega] at ih
    rw [List.cons_append]
    have e1 : ∀ (x : Att) (s : List Att), wasL q n (x :: s) = if pickB q x then (n : Int) :: wasL q (n + 1) s else wasL q (n + 1) s := fun _ _ => rfl
    rw [e1, e1]
    split
    · rw [ih]; rfl
    · rw [ih]
theorem wasL_take {q : Att → Bool} {l : List Att} {k : Nat} (h : k < l.length) : wasL q 0 (l.take (k + 1)) = wasL q 0 (l.take k) ++ (if pickB q l[k] then [(k : Int)] else []) := by
  rw [List.take_succ_eq_append_getElem h, wasL_append]
  congr 1
  rw [List.length_take, Nat.min_eq_left (by omega), Nat.zero_add]
  rfl
theorem wasL_len (q : Att → Bool) : ∀ (l : List Att) (k : Nat), (wasL q k l).length = (pick q l).length
  | [], _ => rfl
  | x :: r, k => by
    have ih := wasL_len q r (k + 1)
    unfold wasL pick
    rw [List.filter_cons]
    split
    · rw [List.length_cons, List.length_cons, ih]; rfl
    · exact ih
theorem attN_append (a : List Att) (x : Att) (b : List Att) : attN (a ++ x :: b) (a.length : Int) = x := by
  unfold attN
  rw [Int.toNat_natCast, List.getD_eq_getElem?_getD, List.getElem?_append_right (Nat.le_refl _), Nat.sub_self]; rfl
theorem wasL_pick (q : Att → Bool) : ∀ (r a : List Att), (wasL q a.length r).map (attN (a ++ r)) = pick q r
  | [], _ => rfl
  | x :: r, a => by
    have ih := wasL_pick q r (a ++ [x])
    rw [List.length_append, List.length_singleton, List.append_assoc, List.singleton_append] at ih
    unfold wasL pick
    rw [List.filter_cons]
    split
    · rw [List.map_cons, ih, attN_append]; rfl
    · exact ih
theorem wasL_committed (q : Att → Bool) : ∀ (r a : List Att), wasL q a.length r = (committed a.length r).filter (fun i => q (attN (a ++ r) i))
  | [], _ => rfl
  | x :: r, a => by
    have ih := wasL_committed q r (a ++ [x])
    rw [List.length_append, List.length_singleton, List.append_assoc, List.singleton_append] at ih
    unfold wasL committed pickB
    by_cases h1 : x.kd = 1
    · rw [if_pos h1, List.filter_cons, attN_append, ih, decide_eq_true h1, Bool.true_and]
    · rw [if_neg h1, if_neg (by simp [h1]), ih]
theorem committed_all : ∀ (s : List Att) (k : Nat), (∀ x ∈ s, x.kd = 1) → ∀ i, i ∈ committed k s ↔ (k : Int) ≤ i ∧ i < k + s.length
  | [], k, _, i => by simp [committed]
  | x :: s, k, h, i => by
    have ih := committed_all s (k + 1) (fun y hy => h y (by simp [hy])) i
    unfold committed
    rw [if_pos (h x (by simp)), List.mem_cons, ih, List.length_cons]
    omega
theorem pick_kd {q : Att → Bool} {l : List Att} {x : Att} (h : x ∈ pick q l) : x ∈ l ∧ x.kd = 1 ∧ q x = true := by
  unfold pick at h
  rw [List.mem_filter] at h
  unfold pickB at h
  simpa using h
theorem committed_range : ∀ (s : List Att) (k : Nat), (∀ x ∈ s, x.kd = 1) → committed k s = (List.range' k s.length).map Int.ofNat
  | [], k, _ => rfl
  | x :: s, k, h => by
    unfold committed
    rw [if_pos (h x (by simp)), committed_range s (k + 1) (fun y hy => h y (by simp [hy])), List.length_cons, List.range'_succ, List.map_cons]
    rfl
def wasN (q : Att → Bool) (l : List Att) (i : Int) : Int := (wasL q 0 l).getD i.toNat 0
theorem wasN_get {q : Att → Bool} {l : List Att} {j : Nat} (h : j < (pick q l).length) : wasN q l (j : Int) = (wasL q 0 l)[j]'(by rw [wasL_len]; exact h) := by
  unfold wasN
  rw [Int.toNat_natCast, List.getD_eq_getElem?_getD, List.getElem?_eq_getElem (by rw [wasL_len]; exact h)]; rfl
theorem wasN_att {q : Att → Bool} {l : List Att} {j : Nat} (h : j < (pick q l).length) : attN (pick q l) (j : Int) = attN l (wasN q l (j : Int)) := by
  rw [attN_get h, wasN_get h]
  have e := wasL_pick q l []
  simp only [List.length_nil, List.nil_append] at e
  have : (pick q l)[j] = ((wasL q 0 l).map (attN l))[j]'(by rw [List.length_map, wasL_len]; exact h) := by
    congr 1; exact e.symm
  rw [this, List.getElem_map]
theorem wasL_eq (q : Att → Bool) (l : List Att) : wasL q 0 l = (committed 0 l).filter (fun i => q (attN l i)) := by
  have := wasL_committed q l []
  simpa using this
theorem wasL_lt (q : Att → Bool) (l : List Att) : (wasL q 0 l).Pairwise (· < ·) := by
  rw [wasL_eq]; exact (committed_lt l 0).1.filter _
theorem wasN_lt {q : Att → Bool} {l : List Att} {i j : Nat} (hi : i < (pick q l).length) (hj : j < (pick q l).length) : wasN q l (i : Int) < wasN q l (j : Int) ↔ i < j := by
  rw [wasN_get hi, wasN_get hj]
  have hp := List.pairwise_iff_getElem.1 (wasL_lt q l)
  constructor
  · intro h
    rcases Nat.lt_trichotomy i j with h1 | h1 | h1
    · exact h1
    · subst h1; omega
    · have := hp j i (by rw [wasL_len]; exact hj) (by rw [wasL_len]; exact hi) h1; omega
  · intro h
    exact hp i j _ _ h
theorem was_committed (q : Att → Bool) (l : List Att) : (committed 0 (pick q l)).map (wasN q l) = wasL q 0 l := by
  rw [committed_range _ _ (fun x hx => (pick_kd hx).2.1)]
  apply List.ext_getElem
  · rw [List.length_map, List.length_map, List.length_range', wasL_len]
  · intro j h1 h2
    rw [List.length_map, List.length_map, List.length_range'] at h1
    rw [List.getElem_map, List.getElem_map, List.getElem_range', Nat.zero_add, Nat.one_mul]
    exact wasN_get h1
theorem orderV_idx {l : List Att} {i : Int} (h : i ∈ orderV l) : ∃ j : Nat, i = j ∧ j < l.length := by
  obtain ⟨j, hj, x, hx, -⟩ := orderV_mem h
  exact ⟨j, hj, (List.getElem?_eq_some_iff.1 hx).1⟩
/-- the order of some of them is their order among all -/
theorem order_pick (q : Att → Bool) (l : List Att) : (orderV (pick q l)).map (wasN q l) = (orderV l).filter (fun i => q (attN l i)) := by
  refine sorted_one (lt := ltN l) _ _ ?_ ?_ ?_
  · have h1 : ((orderV (pick q l)).map (wasN q l)).Perm (wasL q 0 l) := by
      rw [← was_committed]
      exact (sortB_perm _ _).map _
    refine h1.trans ?_
    rw [wasL_eq]
    exact ((sortB_perm _ _).symm).filter _
  · rw [List.pairwise_map]
    refine List.Pairwise.imp_of_mem ?_ (sortB_sorted (stB_swo (nm := id) (ltN_swo (pick q l))) (committed 0 (pick q l)))
    intro a b ha hb hab
    obtain ⟨i, rfl, hi⟩ := orderV_idx ha
    obtain ⟨j, rfl, hj⟩ := orderV_idx hb
    have e1 := wasN_att (q := q) (l := l) hi
    have e2 := wasN_att (q := q) (l := l) hj
    have e3 := wasN_lt (q := q) (l := l) hj hi
    unfold stB ltN at *
    rw [← e1, ← e2]
    simp only [id] at *
    rw [show decide (wasN q l (j : Int) < wasN q l (i : Int)) = decide ((j : Int) < (i : Int)) by
      congr 1
      exact propext (e3.trans (by omega))]
    exact hab
  · exact (sortB_sorted (stB_swo (nm := id) (ltN_swo l)) (committed 0 l)).filter _
theorem okFrom_pick (q : Att → Bool) : ∀ (l : List Att) (p : Option Int), okFrom p l = true → okFrom p (pick q l) = true
  | [], _, _ => rfl
  | x :: r, p, h => by
    unfold pick
    rw [List.filter_cons]
    have h0 := h
    unfold okFrom at h
    simp only [Bool.and_eq_true] at h
    split
    · unfold okFrom
      simp only [Bool.and_eq_true]
      exact ⟨h.1, okFrom_pick q r _ h.2⟩
    · refine okFrom_le _ (some x.bg) p (fun b hb => ⟨x.bg, rfl, ?_⟩) (okFrom_pick q r _ h.2)
      subst hb
      have := h.1.2
      simp only [decide_eq_true_eq] at this
      omega
theorem totalSize_pick (q : Att → Bool) : ∀ (l : List Att), totalSize (pick q l) ≤ totalSize l
  | [] => Nat.le_refl _
  | x :: r => by
    have ih := totalSize_pick q r
    unfold pick at *
    rw [List.filter_cons]
    split
    · simp only [totalSize]; omega
    · simp only [totalSize]; omega
theorem checkedV_pick (q : Att → Bool) {l : List Att} (h : checkedV l = 0) : checkedV (pick q l) = 0 := by
  unfold checkedV at *
  have h1 := totalSize_pick q l
  split at h
  · cases h
  · split at h
    · rename_i h3
      rw [if_neg (by omega), if_pos (okFrom_pick q l none h3)]
    · cases h
/-- what some of them leave behind -/
theorem fold_pick {β : Type} (q : Att → Bool) (l : List Att) (F : β → Att → β) (b : β) : (orderV (pick q l)).foldl (fun h i => F h (attN (pick q l) i)) b = ((orderV l).filter (fun i => q (attN l i))).foldl (fun h i => F h (attN l i)) b := by
  rw [← order_pick, List.foldl_map]
  refine foldl_congr_mem _ _ fun i hi h => ?_
  obtain ⟨j, rfl, hj⟩ := orderV_idx hi
  rw [wasN_att hj]
theorem allK_pick (q : Att → Bool) (l : List Att) : allK (pick q l) (orderV (pick q l)) = ((orderV l).filter (fun i => q (attN l i))).foldl (fun h i => doVK h (attN l i).evs) (fun _ => none) :=
  fold_pick q l (fun h x => doVK h x.evs) _
theorem foldl_filter_step {β : Type} (p : Int → Bool) (F : β → Int → β) : ∀ (o : List Int) (b : β), (o.filter p).foldl F b = o.foldl (fun h i => if p i then F h i else h) b
  | [], _ => rfl
  | i :: o, b => by
    rw [List.filter_cons, List.foldl_cons]
    split
    · rename_i h; rw [List.foldl_cons, foldl_filter_step p F o]
    · rw [foldl_filter_step p F o]
theorem heap_pick {l : List Att} {n : Nat} {y : Att} (hy : l[n]? = some y) (hk : y.kd ≠ 1) (x : Int) : (allK (pick (fun z => decide (z.pl ≤ y.ck)) l) (orderV (pick (fun z => decide (z.pl ≤ y.ck)) l)) x).getD 0 = heapV l (orderV l) n x := by
  rw [allK_pick]
  have h0 := allK_heap l ((orderV l).filter (fun i => decide ((attN l i).pl ≤ y.ck))) x
  unfold allK at h0
  rw [h0, foldl_filter_step]
  unfold heapV
  have hn := (List.getElem?_eq_some_iff.1 hy)
  obtain ⟨hlt, he⟩ := hn
  rw [foldl_congr_mem _ _ (fun i hi h => ?_)]
  obtain ⟨j, rfl, z, hz, hzk⟩ := orderV_mem hi
  rw [attN_get hlt, he]
  have hne : (j : Int) ≠ (n : Int) := by
    intro e
    have : j = n := by omega
    subst this
    rw [hy] at hz
    injection hz with hz
    subst hz
    exact hk hzk
  by_cases h1 : (attN l (j : Int)).pl ≤ y.ck
  · rw [if_pos (by simpa using h1), if_pos ⟨hne, h1⟩]
  · rw [if_neg (by simpa using h1), if_neg (fun h => h1 h.2)]
/-- the reads at the front of a list of events find what there was -/
theorem okV_front : ∀ (es : List Ev) (h : Int → Int) (k : Nat), okV h es = true → (∀ j (hj : j < es.length), j ≤ k → es[j].kd = 2 ∨ es[j].kd = 4) → ∀ (hk : k < es.length), h es[k].a = es[k].b
  | [], _, _, _, _, hk => by simp at hk
  | e :: r, h, 0, ho, hr, hk => by
    have h1 := hr 0 (by simp) (Nat.le_refl _)
    simp only [List.getElem_cons_zero] at *
    unfold okV at ho
    rw [if_pos h1] at ho
    simp only [Bool.and_eq_true, beq_iff_eq] at ho
    exact ho.1
  | e :: r, h, k + 1, ho, hr, hk => by
    have h1 := hr 0 (by simp) (Nat.zero_le _)
    simp only [List.getElem_cons_zero] at h1
    unfold okV at ho
    simp only [Bool.and_eq_true] at ho
    have e1 : doEv h e = h := by
      unfold doEv
      rw [if_neg (by omega), if_neg (by omega)]
    rw [e1] at ho
    have := okV_front r h k ho.2 (fun j hj hjk => by have := hr (j + 1) (by simpa using hj) (by omega); simpa using this) (by simpa using hk)
    simpa using this
end Go.Proofs.Ytjaegddnikkibaa
