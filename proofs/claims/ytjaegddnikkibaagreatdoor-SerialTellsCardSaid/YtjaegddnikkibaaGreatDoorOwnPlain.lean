/-
  Who has made a word, as a list for each word; counts; plain. No program in sight.
-/
import Derived.Test.YtjaegddnikkibaaGreatDoorOpaquePlain
set_option linter.unusedVariables false
set_option linter.unusedSimpArgs false
namespace Go.Proofs.YtjaegddnikkibaaGreatDoor
open Go Go.Sort

/-- what an event of the attempt n makes of the lists -/
def evStep (n : Int) (F : Int → List Int) (e : Ev) : Int → List Int := if e.kd = 6 then fun y => if e.a ≤ y ∧ y < e.a + e.b then F y ++ [n] else F y else F
def attStep (n : Int) (F : Int → List Int) (es : List Ev) : Int → List Int := es.foldl (evStep n) F
def madeGo : Nat → List Att → (Int → List Int) → (Int → List Int)
  | _, [], F => F
  | k, x :: r, F => madeGo (k + 1) r (attStep (k : Int) F x.evs)
def madeV (l : List Att) : Int → List Int := madeGo 0 l (fun _ => [])

theorem mem_attStep (n : Int) (at_ m : Int) : ∀ (es : List Ev) (F : Int → List Int), m ∈ attStep n F es at_ ↔ m ∈ F at_ ∨ (m = n ∧ es.any (evMakes at_) = true)
  | [], F => by simp [attStep]
  | e :: r, F => by
    have ih := mem_attStep n at_ m r (evStep n F e)
    unfold attStep at *
    rw [List.foldl_cons, ih, List.any_cons]
    have h : m ∈ evStep n F e at_ ↔ m ∈ F at_ ∨ (m = n ∧ evMakes at_ e = true) := by
      unfold evStep evMakes
      by_cases h6 : e.kd = 6
      · rw [if_pos h6]
        by_cases h7 : e.a ≤ at_ ∧ at_ < e.a + e.b
        · simp only [if_pos h7, List.mem_append, List.mem_singleton]
          simp [h6, h7.1, h7.2]
        · simp only [if_neg h7]
          have : (decide (e.kd = 6) && decide (e.a ≤ at_) && decide (at_ < e.a + e.b)) = false := by
            simp only [Bool.and_eq_false_iff, decide_eq_false_iff_not]
            by_cases h8 : e.a ≤ at_
            · exact Or.inr (fun h => h7 ⟨h8, h⟩)
            · exact Or.inl (Or.inr h8)
          rw [this]; simp
      · rw [if_neg h6]; simp [h6]
    rw [h, Bool.or_eq_true]
    constructor
    · rintro ((h | ⟨h1, h2⟩) | ⟨h1, h2⟩)
      · exact Or.inl h
      · exact Or.inr ⟨h1, Or.inl h2⟩
      · exact Or.inr ⟨h1, Or.inr h2⟩
    · rintro (h | ⟨h1, h2 | h2⟩)
      · exact Or.inl (Or.inl h)
      · exact Or.inl (Or.inr ⟨h1, h2⟩)
      · exact Or.inr ⟨h1, h2⟩
theorem mem_madeGo (at_ m : Int) : ∀ (l : List Att) (k : Nat) (F : Int → List Int), m ∈ madeGo k l F at_ ↔ m ∈ F at_ ∨ ∃ j : Nat, m = (k + j : Nat) ∧ ∃ x, l[j]? = some x ∧ makesB x at_ = true
  | [], k, F => by simp [madeGo]
  | x :: r, k, F => by
    rw [madeGo, mem_madeGo at_ m r (k + 1), mem_attStep]
    constructor
    · rintro ((h | ⟨h1, h2⟩) | ⟨j, hj, y, hy, hm⟩)
      · exact Or.inl h
      · exact Or.inr ⟨0, by simpa using h1, x, rfl, h2⟩
      · exact Or.inr ⟨j + 1, by rw [hj]; congr 1; omega, y, by simpa using hy, hm⟩
    · rintro (h | ⟨j, hj, y, hy, hm⟩)
      · exact Or.inl (Or.inl h)
      · cases j with
        | zero =>
          simp only [List.getElem?_cons_zero, Option.some.injEq] at hy
          subst hy
          exact Or.inl (Or.inr ⟨by simpa using hj, hm⟩)
        | succ j =>
          rw [List.getElem?_cons_succ] at hy
          exact Or.inr ⟨j, by rw [hj]; congr 1; omega, y, hy, hm⟩
theorem mem_madeV {l : List Att} {at_ m : Int} : m ∈ madeV l at_ ↔ ∃ j : Nat, m = j ∧ ∃ x, l[j]? = some x ∧ makesB x at_ = true := by
  unfold madeV
  rw [mem_madeGo]
  simp
theorem madeV_range {l : List Att} {at_ m : Int} (h : m ∈ madeV l at_) : ∃ j : Nat, m = j ∧ j < l.length := by
  obtain ⟨j, rfl, x, hx, -⟩ := mem_madeV.1 h
  exact ⟨j, rfl, (List.getElem?_eq_some_iff.1 hx).1⟩

/-- what lawful does with a list of those that made a word -/
def lawGo (l : List Att) (y : Att) : Bool → List Int → Bool
  | s, [] => !s
  | s, n :: r => if (attN l n).th = y.th then lawGo l y s r else if (attN l n).kd = 1 ∧ (attN l n).pl ≤ y.ck then true else lawGo l y true r
def otherB (l : List Att) (y : Att) (n : Int) : Bool := decide ((attN l n).th ≠ y.th)
def goodB (l : List Att) (y : Att) (n : Int) : Bool := decide ((attN l n).th ≠ y.th) && (decide ((attN l n).kd = 1) && decide ((attN l n).pl ≤ y.ck))
theorem lawGo_eq (l : List Att) (y : Att) : ∀ (ms : List Int) (s : Bool), lawGo l y s ms = (ms.any (goodB l y) || !(s || ms.any (otherB l y)))
  | [], s => by simp [lawGo]
  | n :: r, s => by
    rw [lawGo, List.any_cons, List.any_cons]
    by_cases h : (attN l n).th = y.th
    · rw [if_pos h, lawGo_eq l y r s]
      simp [goodB, otherB, h]
    · rw [if_neg h]
      by_cases h2 : (attN l n).kd = 1 ∧ (attN l n).pl ≤ y.ck
      · rw [if_pos h2]; simp [goodB, h, h2.1, h2.2]
      · rw [if_neg h2, lawGo_eq l y r true]
        have : goodB l y n = false := by
          unfold goodB
          simp only [Bool.and_eq_false_iff, decide_eq_false_iff_not]
          by_cases h8 : (attN l n).kd = 1
          · exact Or.inr (Or.inr (fun h => h2 ⟨h8, h⟩))
          · exact Or.inr (Or.inl h8)
        rw [this]
        simp [otherB, h]
theorem attN_some {l : List Att} {j : Nat} {x : Att} (h : l[j]? = some x) : attN l (j : Int) = x := by
  unfold attN
  rw [Int.toNat_natCast, List.getD_eq_getElem?_getD, h]; rfl
theorem lawful_made (l : List Att) (y : Att) (at_ : Int) : lawGo l y false (madeV l at_) = lawfulV l y at_ := by
  rw [lawGo_eq]
  unfold lawfulV
  congr 1
  · rw [Bool.eq_iff_iff, List.any_eq_true, List.any_eq_true]
    constructor
    · rintro ⟨n, hn, hg⟩
      obtain ⟨j, rfl, x, hx, hm⟩ := mem_madeV.1 hn
      refine ⟨x, List.mem_of_getElem? hx, ?_⟩
      unfold goodB at hg
      rw [attN_some hx] at hg
      rw [hm, Bool.and_true]
      exact hg
    · rintro ⟨x, hx, hg⟩
      obtain ⟨j, hj⟩ := List.getElem?_of_mem hx
      simp only [Bool.and_eq_true] at hg
      refine ⟨(j : Int), mem_madeV.2 ⟨j, rfl, x, hj, hg.1.2⟩, ?_⟩
      unfold goodB
      rw [attN_some hj, Bool.and_eq_true, Bool.and_eq_true]
      exact ⟨hg.1.1, hg.2⟩
  · rw [Bool.false_or]
    congr 1
    rw [Bool.eq_iff_iff, List.any_eq_true, List.any_eq_true]
    constructor
    · rintro ⟨n, hn, hg⟩
      obtain ⟨j, rfl, x, hx, hm⟩ := mem_madeV.1 hn
      refine ⟨x, List.mem_of_getElem? hx, ?_⟩
      unfold otherB at hg
      rw [attN_some hx] at hg
      rw [hm, Bool.and_true]
      exact hg
    · rintro ⟨x, hx, hg⟩
      obtain ⟨j, hj⟩ := List.getElem?_of_mem hx
      simp only [Bool.and_eq_true] at hg
      refine ⟨(j : Int), mem_madeV.2 ⟨j, rfl, x, hj, hg.2⟩, ?_⟩
      unfold otherB
      rw [attN_some hj]
      exact hg.1

/-- how often a word was made -/
def cntV (es : List Ev) (y : Int) : Int := (es.filter (evMakes y)).length
theorem cntV_nil (y : Int) : cntV [] y = 0 := rfl
theorem cntV_snoc (es : List Ev) (e : Ev) (y : Int) : cntV (es ++ [e]) y = cntV es y + (if evMakes y e then 1 else 0) := by
  unfold cntV
  rw [List.filter_append, List.length_append]
  cases h : evMakes y e <;> simp [h]
theorem cntV_zero (es : List Ev) (y : Int) : (cntV es y = 0) ↔ es.any (evMakes y) = false := by
  unfold cntV
  rw [List.any_eq_false]
  constructor
  · intro h x hx hm
    have : x ∈ es.filter (evMakes y) := List.mem_filter.2 ⟨hx, hm⟩
    have := List.length_pos_of_mem this
    omega
  · intro h
    have : es.filter (evMakes y) = [] := List.filter_eq_nil_iff.2 h
    rw [this]; rfl
theorem cntV_le (es : List Ev) (y : Int) : 0 ≤ cntV es y ∧ cntV es y ≤ es.length := by
  unfold cntV
  have := List.length_filter_le (evMakes y) es
  omega
end Go.Proofs.YtjaegddnikkibaaGreatDoor
