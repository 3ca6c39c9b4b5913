/-
  The stable sort of the library, plain: merges of one element, blocks, the whole. No program in sight.
-/
import Derived.Test.YtjaegddnikkibaaGreatDoorSortPlain
set_option linter.unusedVariables false
set_option linter.unusedSimpArgs false
namespace Go.Proofs.YtjaegddnikkibaaGreatDoor
open Go.Sort
variable {α : Type} [Inhabited α] {num : α → Int}

theorem merged_one_left {lt : α → α → Bool} (S : SWO lt) {a b e : Nat} {d d1 : Array α} (h : Two num lt a (a + 1) b d) (hr : RotIn a (a + 1) e d d1) (h3 : a + 1 ≤ e) (h4 : e ≤ b) (hb : b ≤ d.size)
    (f2 : a + 1 < e → stB num lt d[e - 1]! d[a]! = true) (f1 : e < b → stB num lt d[e]! d[a]! = false) : Merged num lt a b d d1 := by
  have S' := stB_swo (nm := num) S
  refine merged_of S h hr (Nat.le_refl _) (by omega) h3 h4 hb (fun h => by omega) (fun _ h => f2 h) (merged_left (two_of_rot_left h hr (Nat.le_refl _) (by omega) h3 h4) (Or.inl rfl)) ⟨permIn_refl _ _ _, fun i j hi hij hj => ?_⟩
  by_cases hie : i < e
  · rw [hr.two i hi hie, hr.out j (by omega)]
    have e1 : i - (e - (a + 1)) = a := by omega
    rw [e1]
    refine S'.ntrans _ _ _ ?_ (f1 (by omega))
    rcases Nat.lt_or_ge e j with hj2 | hj2
    · exact h.right e j (by omega) hj2 hj
    · have : j = e := by omega
      subst this; exact S'.irrefl _
  · rw [hr.out i (by omega), hr.out j (by omega)]
    exact h.right i j (by omega) hij hj
theorem merged_one_right {lt : α → α → Bool} (S : SWO lt) {a m s : Nat} {d d1 : Array α} (h : Two num lt a m (m + 1) d) (hr : RotIn s m (m + 1) d d1) (h1 : a ≤ s) (h2 : s ≤ m) (hb : m + 1 ≤ d.size)
    (f2 : s < m → stB num lt d[m]! d[s]! = true) (f1 : a < s → stB num lt d[m]! d[s - 1]! = false) : Merged num lt a (m + 1) d d1 := by
  have S' := stB_swo (nm := num) S
  have e0 : m + 1 - m = 1 := by omega
  refine merged_of S h hr h1 h2 (by omega) (Nat.le_refl _) hb (fun _ h => by omega) (fun h _ => f2 h) ⟨permIn_refl _ _ _, fun i j hi hij hj => ?_⟩ ⟨permIn_refl _ _ _, fun i j hi hij hj => ?_⟩
  · rw [hr.out i (by omega)]
    by_cases hjs : j < s
    · rw [hr.out j (by omega)]; exact h.left i j hi hij (by omega)
    · rw [hr.one j (by omega) hj]
      have e1 : j - s + m = m := by omega
      rw [e1]
      refine S'.ntrans _ _ _ (f1 (by omega)) ?_
      rcases Nat.lt_or_ge i (s - 1) with hi2 | hi2
      · exact h.left i (s - 1) hi hi2 (by omega)
      · have : i = s - 1 := by omega
        subst this; exact S'.irrefl _
  · rw [hr.two i hi (by omega), hr.two j (by omega) hj]
    exact h.left _ _ (by omega) (by omega) (by omega)

theorem rot_up {a k : Nat} {d dk : Array α} (h : RotIn a (a + 1) (k + 1) d dk) (hk : a ≤ k) (hb : k + 1 < d.size) : RotIn a (a + 1) (k + 2) d (swp dk k (k + 1)) := by
  have hs := h.size
  have g := swp_get dk (i := k) (j := k + 1) (by omega) (by omega)
  refine ⟨by rw [size_swp]; exact h.size, fun x hx => ?_, fun x h1 h2 => ?_, fun x h1 h2 => ?_, ?_⟩
  · rw [g x, if_neg (by omega), if_neg (by omega), h.out x (by omega)]
  · rw [g x, if_neg (by omega)]
    by_cases hx : x = k
    · rw [if_pos hx, h.out (k + 1) (by omega)]; congr 1; omega
    · rw [if_neg hx, h.one x h1 (by omega)]
  · have hx : x = k + 1 := by omega
    rw [g x, if_pos hx, h.two k (by omega) (by omega)]
    congr 1; omega
  · exact permIn_trans _ _ _ _ _ (permIn_mono _ _ _ _ _ _ (Nat.le_refl _) (by omega) (by omega) h.perm) (swp_permIn _ a (k + 2) _ _ (by omega) (by omega) (by omega) (by omega) (by omega))
theorem rot_down {k m : Nat} {d dk : Array α} (h : RotIn (k + 1) m (m + 1) d dk) (hk : k + 1 ≤ m) (hb : m + 1 ≤ d.size) : RotIn k m (m + 1) d (swp dk (k + 1) k) := by
  have hs := h.size
  have e0 : m + 1 - m = 1 := by omega
  have g := swp_get dk (i := k + 1) (j := k) (by omega) (by omega)
  refine ⟨by rw [size_swp]; exact h.size, fun x hx => ?_, fun x h1 h2 => ?_, fun x h1 h2 => ?_, ?_⟩
  · rw [g x, if_neg (by omega), if_neg (by omega), h.out x (by omega)]
  · have hx : x = k := by omega
    rw [g x, if_pos hx, h.one (k + 1) (by omega) (by omega)]
    congr 1; omega
  · rw [g x, if_neg (by omega)]
    by_cases hx : x = k + 1
    · rw [if_pos hx, h.out k (by omega)]; congr 1; omega
    · rw [if_neg hx, h.two x (by omega) h2]
  · exact permIn_trans _ _ _ _ _ (permIn_mono _ _ _ _ _ _ (by omega) (Nat.le_refl _) (by omega) h.perm) (swp_permIn _ k (m + 1) _ _ (by omega) (by omega) (by omega) (by omega) (by omega))

/-! ### the insertion of growing numbers is by the stable order -/
theorem insInner_perm (lt : α → α → Bool) (a : Nat) : ∀ (j : Nat) (d : Array α), a ≤ j → j < d.size → PermIn a (j + 1) d (insInner lt a j d)
  | 0, d, _, _ => permIn_refl _ _ _
  | j + 1, d, h1, h2 => by
    unfold insInner
    split
    · rename_i hc
      have hja : a ≤ j := by
        have h3 := hc
        simp only [Bool.and_eq_true, decide_eq_true_eq] at h3
        omega
      refine permIn_trans _ _ _ _ _ (swp_permIn d a (j + 2) (j + 1) j (by omega) (by omega) (by omega) (by omega) (by omega)) ?_
      have := insInner_perm lt a j (swp d (j + 1) j) hja (by rw [size_swp]; omega)
      exact permIn_mono _ _ _ _ _ _ (Nat.le_refl _) (by omega) (by rw [size_swp]; omega) this
    · exact permIn_refl _ _ _
theorem insInner_eq (num : α → Int) (lt : α → α → Bool) (a : Nat) : ∀ (j : Nat) (d : Array α), j < d.size → (∀ p, a ≤ p → p < j → num d[p]! < num d[j]!) → insInner lt a j d = insInner (stB num lt) a j d
  | 0, d, _, _ => rfl
  | j + 1, d, hj, h => by
    unfold insInner
    by_cases hja : a < j + 1
    · have h1 := h j (by omega) (by omega)
      rw [stB_of_lt (lt := lt) (x := d[j + 1]!) (y := d[j]!) (by omega)]
      have := insInner_eq num lt a j (swp d (j + 1) j) (by rw [size_swp]; omega) (fun p hp hpj => by
        rw [swp_other d _ _ _ (by omega) (by omega), swp_right d _ _ (by omega)]
        exact h p hp (by omega))
      rw [this]
    · have e : decide (j + 1 > a) = false := by simp; omega
      simp only [e, Bool.false_and, Bool.false_eq_true, if_false]
theorem insOuter_eq (num : α → Int) (lt : α → α → Bool) (a b : Nat) : ∀ (n i : Nat) (d : Array α), b - i ≤ n → a ≤ i → b ≤ d.size → (∀ p q, a ≤ p → p < q → i ≤ q → q < b → num d[p]! < num d[q]!) → insOuter lt a b i d = insOuter (stB num lt) a b i d
  | 0, i, d, h, _, _, _ => by
    unfold insOuter
    rw [if_neg (by omega), if_neg (by omega)]
  | n + 1, i, d, h, hi, hb, hq => by
    rw [insOuter, insOuter.eq_def (stB num lt)]
    by_cases hlt : i < b
    · rw [if_pos hlt, if_pos hlt, insInner_eq num lt a i d (by omega) (fun p hp hpi => hq p i hp hpi (Nat.le_refl _) hlt)]
      have hp := insInner_perm (stB num lt) a i d hi (by omega)
      refine insOuter_eq num lt a b n (i + 1) _ (by omega) (by omega) (by rw [hp.1]; exact hb) (fun p q h1 h2 h3 h4 => ?_)
      rw [hp.2.1 q (by omega)]
      by_cases hpi : p < i + 1
      · exact permIn_all d _ a (i + 1) (fun x => num x < num d[q]!) (by omega) hp (fun p h1 h2 => hq p q h1 (by omega) (by omega) h4) p h1 hpi
      · rw [hp.2.1 p (by omega)]
        exact hq p q h1 h2 (by omega) h4
    · rw [if_neg hlt, if_neg hlt]
theorem insertion_merged {lt : α → α → Bool} (S : SWO lt) {d : Array α} {a b : Nat} (hab : a ≤ b) (hb : b ≤ d.size) (hq : ∀ p q, a ≤ p → p < q → q < b → num d[p]! < num d[q]!) : Merged num lt a b d (insertionSort lt d a b) := by
  have : insertionSort lt d a b = insertionSort (stB num lt) d a b := insOuter_eq num lt a b b (a + 1) d (by omega) (by omega) hb (fun p q h1 h2 _ h4 => hq p q h1 h2 h4)
  rw [this]
  have := insertionSort_holds (lt := stB num lt) (stB_swo (nm := num) S) d a b hab hb
  exact ⟨this.1, this.2⟩

/-! ### blocks -/
/-- all ahead of place c are less than all behind -/
def Cut (num : α → Int) (n c : Nat) (d : Array α) : Prop := ∀ i j, i < c → c ≤ j → j < n → num d[i]! < num d[j]!
theorem Cut.perm {n c a b : Nat} {d d' : Array α} (h : Cut num n c d) (hp : PermIn a b d d') (hc : c ≤ a ∨ b ≤ c) (hb : b ≤ n) (hn : n ≤ d.size) : Cut num n c d' := fun i j hi hj hjn => by
  rcases hc with hc | hc
  · rw [hp.2.1 i (by omega)]
    by_cases hjb : a ≤ j ∧ j < b
    · exact permIn_all d d' a b (fun x => num d[i]! < num x) (by omega) hp (fun j h1 h2 => h i j hi (by omega) (by omega)) j hjb.1 hjb.2
    · rw [hp.2.1 j (by omega)]; exact h i j hi hj hjn
  · rw [hp.2.1 j (by omega)]
    by_cases hib : a ≤ i ∧ i < b
    · exact permIn_all d d' a b (fun x => num x < num d[j]!) (by omega) hp (fun i h1 h2 => h i j (by omega) hj hjn) i hib.1 hib.2
    · rw [hp.2.1 i (by omega)]; exact h i j hi hj hjn
theorem sorted_other {lt : α → α → Bool} {a b p q : Nat} {d d' : Array α} (h : SortedIn lt p q d) (hp : PermIn a b d d') (hd : q ≤ a ∨ b ≤ p) : SortedIn lt p q d' := fun i j hi hij hj => by
  rw [hp.2.1 i (by omega), hp.2.1 j (by omega)]
  exact h i j hi hij hj

/-- the first pass, up to place a: blocks of s are sorted, what is behind grows -/
structure First (num : α → Int) (lt : α → α → Bool) (s n t : Nat) (d0 d : Array α) : Prop where
  perm : PermIn 0 n d0 d
  blocks : ∀ k, k < t → SortedIn (stB num lt) (k * s) (k * s + s) d ∧ Cut num n (k * s) d
  rest : ∀ i j, i < j → t * s ≤ j → j < n → num d[i]! < num d[j]!
theorem First.start {lt : α → α → Bool} {s n : Nat} {d : Array α} (hd : ∀ i j, i < j → j < n → num d[i]! < num d[j]!) : First num lt s n 0 d d :=
  ⟨permIn_refl _ _ _, fun k h => absurd h (Nat.not_lt_zero _), fun i j h1 _ h2 => hd i j h1 h2⟩
theorem First.two {lt : α → α → Bool} {s n t : Nat} {d0 d : Array α} (h : First num lt s n t d0 d) {b : Nat} (hb : b ≤ n) : ∀ p q, t * s ≤ p → p < q → q < b → num d[p]! < num d[q]! :=
  fun p q h1 h2 h3 => h.rest p q h2 (by omega) (by omega)
theorem First.step {lt : α → α → Bool} {s n t : Nat} {d0 d d' : Array α} (h : First num lt s n t d0 d) (hb : t * s + s ≤ n) (hn : n ≤ d.size) (hm : Merged num lt (t * s) (t * s + s) d d') : First num lt s n (t + 1) d0 d' := by
  have e : (t + 1) * s = t * s + s := Nat.succ_mul t s
  have hp := hm.perm
  refine ⟨permIn_trans _ _ _ _ _ h.perm (permIn_mono _ _ _ _ _ _ (by omega) hb hn hp), fun k hk => ?_, fun i j h1 h2 h3 => ?_⟩
  · rcases Nat.lt_or_ge k t with hkt | hkt
    · have e2 : k * s + s ≤ t * s := by rw [← Nat.succ_mul]; exact Nat.mul_le_mul_right s hkt
      have := h.blocks k hkt
      exact ⟨sorted_other this.1 hp (by omega), this.2.perm hp (by omega) hb hn⟩
    · have : k = t := by omega
      subst this
      refine ⟨hm.sorted, ?_⟩
      have hc : Cut num n (k * s) d := fun i j hi hj hjn => h.rest i j (by omega) hj hjn
      exact hc.perm hp (Or.inl (Nat.le_refl _)) hb hn
  · rw [e] at h2
    rw [hp.2.1 j (by omega)]
    by_cases hib : t * s ≤ i ∧ i < t * s + s
    · exact permIn_all d d' _ _ (fun x => num x < num d[j]!) (by omega) hp (fun i h4 h5 => h.rest i j (by omega) (by omega) h3) i hib.1 hib.2
    · rw [hp.2.1 i (by omega)]; exact h.rest i j h1 (by omega) h3

/-- all blocks of s are sorted -/
structure Blocks (num : α → Int) (lt : α → α → Bool) (s n : Nat) (d0 d : Array α) : Prop where
  perm : PermIn 0 n d0 d
  blocks : ∀ k, SortedIn (stB num lt) (k * s) (min (k * s + s) n) d ∧ Cut num n (k * s) d
theorem First.done {lt : α → α → Bool} {s n t : Nat} {d0 d d' : Array α} (h : First num lt s n t d0 d) (hb : n < t * s + s) (ha : t * s ≤ n) (hn : n ≤ d.size) (hm : Merged num lt (t * s) n d d') : Blocks num lt s n d0 d' := by
  have hp := hm.perm
  refine ⟨permIn_trans _ _ _ _ _ h.perm (permIn_mono _ _ _ _ _ _ (by omega) (Nat.le_refl _) hn hp), fun k => ?_⟩
  rcases Nat.lt_trichotomy k t with hkt | hkt | hkt
  · have e2 : k * s + s ≤ t * s := by rw [← Nat.succ_mul]; exact Nat.mul_le_mul_right s hkt
    have := h.blocks k hkt
    refine ⟨?_, this.2.perm hp (by omega) (Nat.le_refl _) hn⟩
    rw [Nat.min_eq_left (by omega)]
    exact sorted_other this.1 hp (by omega)
  · subst hkt
    refine ⟨by rw [Nat.min_eq_right (by omega)]; exact hm.sorted, ?_⟩
    have hc : Cut num n (k * s) d := fun i j hi hj hjn => h.rest i j (by omega) hj hjn
    exact hc.perm hp (Or.inl (Nat.le_refl _)) (Nat.le_refl _) hn
  · have e2 : t * s + s ≤ k * s := by rw [← Nat.succ_mul]; exact Nat.mul_le_mul_right s hkt
    exact ⟨fun i j h1 h2 h3 => by omega, fun i j h1 h2 h3 => by omega⟩
theorem Blocks.whole {lt : α → α → Bool} {s n : Nat} {d0 d : Array α} (h : Blocks num lt s n d0 d) (hs : n ≤ s) : Merged num lt 0 n d0 d := by
  have := (h.blocks 0).1
  rw [Nat.zero_mul, Nat.zero_add, Nat.min_eq_right hs] at this
  exact ⟨h.perm, this⟩

/-- a pass of merges, up to place t * (2 * s) -/
structure Pass (num : α → Int) (lt : α → α → Bool) (s n t : Nat) (d0 d : Array α) : Prop where
  perm : PermIn 0 n d0 d
  big : ∀ k, k < t → SortedIn (stB num lt) (k * (2 * s)) (k * (2 * s) + 2 * s) d ∧ Cut num n (k * (2 * s)) d
  small : ∀ k, t * (2 * s) ≤ k * s → SortedIn (stB num lt) (k * s) (min (k * s + s) n) d ∧ Cut num n (k * s) d
theorem Pass.start {lt : α → α → Bool} {s n : Nat} {d0 d : Array α} (h : Blocks num lt s n d0 d) : Pass num lt s n 0 d0 d :=
  ⟨h.perm, fun k hk => absurd hk (Nat.not_lt_zero _), fun k _ => h.blocks k⟩
theorem Pass.two {lt : α → α → Bool} {s n t : Nat} {d0 d : Array α} (h : Pass num lt s n t d0 d) (hm : t * (2 * s) + s ≤ n) {b : Nat} (hb : b = min (t * (2 * s) + 2 * s) n) : Two num lt (t * (2 * s)) (t * (2 * s) + s) b d := by
  have e1 : t * (2 * s) = (2 * t) * s := by rw [← Nat.mul_assoc, Nat.mul_comm t 2]
  have e2 : t * (2 * s) + s = (2 * t + 1) * s := by rw [show (2 * t + 1) * s = 2 * t * s + s from Nat.succ_mul _ _, ← e1]
  have h1 := h.small (2 * t) (by omega)
  have h2 := h.small (2 * t + 1) (by omega)
  rw [← e1] at h1
  rw [← e2] at h2
  rw [Nat.min_eq_left hm] at h1
  have e3 : t * (2 * s) + s + s = t * (2 * s) + 2 * s := by omega
  rw [e3, ← hb] at h2
  exact ⟨h1.1, h2.1, fun i j _ hi hj hj2 => h2.2 i j hi hj (by omega)⟩
theorem Pass.step {lt : α → α → Bool} {s n t : Nat} {d0 d d' : Array α} (h : Pass num lt s n t d0 d) (hb : t * (2 * s) + 2 * s ≤ n) (hn : n ≤ d.size) (hm : Merged num lt (t * (2 * s)) (t * (2 * s) + 2 * s) d d') : Pass num lt s n (t + 1) d0 d' := by
  have e : (t + 1) * (2 * s) = t * (2 * s) + 2 * s := Nat.succ_mul t (2 * s)
  have hp := hm.perm
  have e1 : t * (2 * s) = (2 * t) * s := by rw [← Nat.mul_assoc, Nat.mul_comm t 2]
  refine ⟨permIn_trans _ _ _ _ _ h.perm (permIn_mono _ _ _ _ _ _ (by omega) hb hn hp), fun k hk => ?_, fun k hk => ?_⟩
  · rcases Nat.lt_or_ge k t with hkt | hkt
    · have e2 : k * (2 * s) + 2 * s ≤ t * (2 * s) := by rw [← Nat.succ_mul]; exact Nat.mul_le_mul_right _ hkt
      have := h.big k hkt
      exact ⟨sorted_other this.1 hp (by omega), this.2.perm hp (by omega) hb hn⟩
    · have : k = t := by omega
      subst this
      refine ⟨hm.sorted, ?_⟩
      have hc := (h.small (2 * k) (by omega)).2
      rw [← e1] at hc
      exact hc.perm hp (Or.inl (Nat.le_refl _)) hb hn
  · rw [e] at hk
    have := h.small k (by omega)
    exact ⟨sorted_other this.1 hp (by omega), this.2.perm hp (by omega) hb hn⟩
/-- the pass's end, with the last merge or without -/
theorem Pass.done {lt : α → α → Bool} {s n t : Nat} {d0 d d' : Array α} (h : Pass num lt s n t d0 d) (ha : t * (2 * s) ≤ n) (hb : n < t * (2 * s) + 2 * s) (hn : n ≤ d.size)
    (hm : (t * (2 * s) + s < n ∧ Merged num lt (t * (2 * s)) n d d') ∨ (n ≤ t * (2 * s) + s ∧ d' = d)) : Blocks num lt (2 * s) n d0 d' := by
  have e1 : t * (2 * s) = (2 * t) * s := by rw [← Nat.mul_assoc, Nat.mul_comm t 2]
  have hm2 : Merged num lt (t * (2 * s)) n d d' := by
    rcases hm with ⟨_, hm⟩ | ⟨hs, rfl⟩
    · exact hm
    · have := (h.small (2 * t) (by omega)).1
      rw [← e1, Nat.min_eq_right hs] at this
      exact ⟨permIn_refl _ _ _, this⟩
  have hp := hm2.perm
  refine ⟨permIn_trans _ _ _ _ _ h.perm (permIn_mono _ _ _ _ _ _ (by omega) (Nat.le_refl _) hn hp), fun k => ?_⟩
  rcases Nat.lt_trichotomy k t with hkt | hkt | hkt
  · have e2 : k * (2 * s) + 2 * s ≤ t * (2 * s) := by rw [← Nat.succ_mul]; exact Nat.mul_le_mul_right _ hkt
    have := h.big k hkt
    refine ⟨?_, this.2.perm hp (by omega) (Nat.le_refl _) hn⟩
    rw [Nat.min_eq_left (by omega)]
    exact sorted_other this.1 hp (by omega)
  · subst hkt
    refine ⟨by rw [Nat.min_eq_right (by omega)]; exact hm2.sorted, ?_⟩
    have hc := (h.small (2 * k) (by omega)).2
    rw [← e1] at hc
    exact hc.perm hp (Or.inl (Nat.le_refl _)) (Nat.le_refl _) hn
  · have e2 : t * (2 * s) + 2 * s ≤ k * (2 * s) := by rw [← Nat.succ_mul]; exact Nat.mul_le_mul_right _ hkt
    exact ⟨fun i j h1 h2 h3 => by omega, fun i j h1 h2 h3 => by omega⟩
end Go.Proofs.YtjaegddnikkibaaGreatDoor
