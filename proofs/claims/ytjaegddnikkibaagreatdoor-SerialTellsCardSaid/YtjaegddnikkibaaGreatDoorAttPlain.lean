/-
  Attempts and events, plain; what may be; the order. No program in sight.
-/
import Derived.WalkKit
import Derived.Test.YtjaegddnikkibaaGreatDoorSortPlain2
set_option linter.unusedVariables false
set_option linter.unusedSimpArgs false
namespace Go.Proofs.YtjaegddnikkibaaGreatDoor
open Go Go.Sort

structure Ev where
  th : Int
  kd : Int
  a : Int
  b : Int
structure Att where
  th : Int
  kd : Int
  bg : Int
  en : Int
  ck : Int
  pl : Int
  wr : Bool
  dA : Option Addr
  dc : Nat
  evs : List Ev

def attZ : Att := ⟨0, 0, 0, 0, 0, 0, false, none, 0, []⟩
/-- the attempt of a number -/
def attN (l : List Att) (i : Int) : Att := l.getD i.toNat attZ

/-- may an event stand in an attempt of that thread? -/
def evB (th : Int) (e : Ev) : Bool :=
  decide (e.th = th) && decide (0 ≤ e.a) && decide (e.a < 262144) &&
  (if e.kd = 6 then decide (0 ≤ e.b) && decide (e.b ≤ 64) && decide (e.a + e.b ≤ 262144) else decide (2 ≤ e.kd) && decide (e.kd ≤ 5))
/-- may an attempt be? -/
def attB (x : Att) : Bool :=
  decide (0 ≤ x.th) && decide (x.th < 4) && decide (x.kd ≤ 3) && decide (0 ≤ x.bg) && decide (0 ≤ x.ck) &&
  (if x.kd = 0 then decide (x.en = -1) else decide (x.bg < x.en)) &&
  (decide (x.kd = 1) || (decide (x.pl = 0) && !x.wr)) && x.evs.all (evB x.th)
/-- each may be, and each begins behind the one ahead -/
def okFrom : Option Int → List Att → Bool
  | _, [] => true
  | p, x :: r => attB x && (match p with | none => true | some b => decide (b < x.bg)) && okFrom (some x.bg) r
def totalSize : List Att → Nat
  | [] => 0
  | x :: r => 1 + x.evs.length + totalSize r
/-- Checked's answer -/
def checkedV (l : List Att) : Int := if 1048576 < totalSize l then 3 else if okFrom none l then 0 else 15

/-- the numbers of those that committed, from number k on -/
def committed : Nat → List Att → List Int
  | _, [] => []
  | k, x :: r => if x.kd = 1 then (k : Int) :: committed (k + 1) r else committed (k + 1) r
def wv (x : Att) : Int := if x.wr then 0 else 1
/-- ahead in the order of transactions? -/
def aheadB (x y : Att) : Bool := decide (x.pl < y.pl) || (decide (x.pl = y.pl) && (decide (wv x < wv y) || (decide (wv x = wv y) && decide (x.en < y.en))))
def ltN (l : List Att) (i j : Int) : Bool := aheadB (attN l i) (attN l j)
theorem ltN_swo (l : List Att) : SWO (ltN l) where
  irrefl x := by unfold ltN aheadB; simp
  trans x y z h1 h2 := by
    unfold ltN aheadB at *
    generalize attN l x = a at *; generalize attN l y = b at *; generalize attN l z = c at *
    generalize wv a = wa at *; generalize wv b = wb at *; generalize wv c = wc at *
    simp only [Bool.or_eq_true, Bool.and_eq_true, decide_eq_true_eq] at *
    omega
  ntrans x y z h1 h2 := by
    unfold ltN aheadB at *
    generalize attN l x = a at *; generalize attN l y = b at *; generalize attN l z = c at *
    generalize wv a = wa at *; generalize wv b = wb at *; generalize wv c = wc at *
    simp only [Bool.or_eq_false_iff, Bool.and_eq_false_iff, decide_eq_false_iff_not] at *
    omega

/-- the order: insertion by the stable order -/
def insB (lt : Int → Int → Bool) (x : Int) : List Int → List Int
  | [] => [x]
  | y :: l => if lt x y then x :: y :: l else y :: insB lt x l
def sortB (lt : Int → Int → Bool) : List Int → List Int
  | [] => []
  | x :: l => insB lt x (sortB lt l)
def orderV (l : List Att) : List Int := sortB (stB id (ltN l)) (committed 0 l)

theorem insB_perm (lt : Int → Int → Bool) (x : Int) : ∀ l, (insB lt x l).Perm (x :: l)
  | [] => List.Perm.refl _
  | y :: l => by
    unfold insB
    split
    · exact List.Perm.refl _
    · exact ((insB_perm lt x l).cons y).trans (List.Perm.swap x y l)
theorem sortB_perm (lt : Int → Int → Bool) : ∀ l, (sortB lt l).Perm l
  | [] => List.Perm.refl _
  | x :: l => (insB_perm lt x _).trans ((sortB_perm lt l).cons x)
theorem insB_sorted {lt : Int → Int → Bool} (S : SWO lt) (x : Int) : ∀ l, l.Pairwise (fun p q => lt q p = false) → (insB lt x l).Pairwise (fun p q => lt q p = false)
  | [], _ => by simp [insB]
  | y :: l, h => by
    unfold insB
    cases hxy : lt x y with
    | true =>
      simp only [if_true]
      refine List.pairwise_cons.2 ⟨fun q hq => ?_, h⟩
      have hyx : lt y x = false := not_swo S hxy
      rcases List.mem_cons.1 hq with rfl | hq
      · exact hyx
      · exact S.ntrans _ _ _ ((List.pairwise_cons.1 h).1 q hq) hyx
    | false =>
      simp only [Bool.false_eq_true, if_false]
      refine List.pairwise_cons.2 ⟨fun q hq => ?_, insB_sorted S x l (List.pairwise_cons.1 h).2⟩
      rcases List.mem_cons.1 ((insB_perm lt x l).mem_iff.1 hq) with rfl | hq
      · exact hxy
      · exact (List.pairwise_cons.1 h).1 q hq
theorem sortB_sorted {lt : Int → Int → Bool} (S : SWO lt) : ∀ l, (sortB lt l).Pairwise (fun p q => lt q p = false)
  | [] => List.Pairwise.nil
  | x :: l => insB_sorted S x _ (sortB_sorted S l)

theorem stB_total {lt : Int → Int → Bool} {x y : Int} (h1 : stB id lt x y = false) (h2 : stB id lt y x = false) : x = y := by
  unfold stB at *
  simp only [id, Bool.or_eq_false_iff, Bool.and_eq_false_iff, Bool.not_eq_false', decide_eq_false_iff_not] at *
  obtain ⟨a1, a2⟩ := h1
  obtain ⟨b1, b2⟩ := h2
  rcases a2 with a2 | a2
  · rw [a2] at b1; cases b1
  · rcases b2 with b2 | b2
    · rw [b2] at a1; cases a1
    · omega
/-- one sorted list alone -/
theorem sorted_one {lt : Int → Int → Bool} : ∀ (l l' : List Int), l.Perm l' → l.Pairwise (fun p q => stB id lt q p = false) → l'.Pairwise (fun p q => stB id lt q p = false) → l = l'
  | [], l', h, _, _ => (List.Perm.nil_eq h)
  | x :: l, [], h, _, _ => by have := h.length_eq; simp at this
  | x :: l, y :: l', h, h1, h2 => by
    obtain ⟨h1a, h1b⟩ := List.pairwise_cons.1 h1
    obtain ⟨h2a, h2b⟩ := List.pairwise_cons.1 h2
    have hxy : x = y := by
      have hx : x ∈ y :: l' := h.mem_iff.1 (by simp)
      have hy : y ∈ x :: l := h.mem_iff.2 (by simp)
      rcases List.mem_cons.1 hx with hx | hx
      · exact hx
      · rcases List.mem_cons.1 hy with hy | hy
        · exact hy.symm
        · exact stB_total (h2a x hx) (h1a y hy)
    subst hxy
    rw [sorted_one l l' h.cons_inv h1b h2b]
theorem orderV_of {l : List Att} {o : List Int} (hp : o.Perm (committed 0 l)) (hs : o.Pairwise (fun p q => stB id (ltN l) q p = false)) : o = orderV l :=
  sorted_one _ _ (hp.trans (sortB_perm _ _).symm) hs (sortB_sorted (stB_swo (nm := id) (ltN_swo l)) _)

/-- the committed numbers grow, and are numbers of attempts that committed -/
theorem committed_mem : ∀ (l : List Att) (k : Nat) (i : Int), i ∈ committed k l ↔ ∃ j : Nat, i = (k + j : Nat) ∧ ∃ x, l[j]? = some x ∧ x.kd = 1
  | [], k, i => by simp [committed]
  | x :: r, k, i => by
    have ih := committed_mem r (k + 1) i
    unfold committed
    constructor
    · intro h
      split at h
      · rename_i hk
        rcases List.mem_cons.1 h with rfl | h
        · exact ⟨0, by simp, x, rfl, hk⟩
        · obtain ⟨j, hj, y, hy⟩ := ih.1 h
          exact ⟨j + 1, by rw [hj]; congr 1; omega, y, by simpa using hy⟩
      · obtain ⟨j, hj, y, hy⟩ := ih.1 h
        exact ⟨j + 1, by rw [hj]; congr 1; omega, y, by simpa using hy⟩
    · rintro ⟨j, hj, y, hy, hk⟩
      cases j with
      | zero =>
        simp only [List.getElem?_cons_zero, Option.some.injEq] at hy
        subst hy
        rw [if_pos hk]
        exact List.mem_cons.2 (Or.inl (by rw [hj]; simp))
      | succ j =>
        rw [List.getElem?_cons_succ] at hy
        have hm := ih.2 ⟨j, by rw [hj]; congr 1; omega, y, hy, hk⟩
        split
        · exact List.mem_cons_of_mem _ hm
        · exact hm
theorem committed_lt : ∀ (l : List Att) (k : Nat), (committed k l).Pairwise (· < ·) ∧ ∀ i ∈ committed k l, (k : Int) ≤ i ∧ i < k + l.length
  | [], k => by simp [committed]
  | x :: r, k => by
    obtain ⟨h1, h2⟩ := committed_lt r (k + 1)
    unfold committed
    have h3 : ∀ i ∈ committed (k + 1) r, (k : Int) < i ∧ i < k + (x :: r).length := fun i hi => by
      have := h2 i hi
      rw [List.length_cons]
      omega
    split
    · refine ⟨List.pairwise_cons.2 ⟨fun i hi => (h3 i hi).1, h1⟩, fun i hi => ?_⟩
      rcases List.mem_cons.1 hi with rfl | hi
      · rw [List.length_cons]; omega
      · have := h3 i hi; omega
    · exact ⟨h1, fun i hi => by have := h3 i hi; omega⟩
theorem orderV_mem {l : List Att} {i : Int} (h : i ∈ orderV l) : ∃ j : Nat, i = j ∧ ∃ x, l[j]? = some x ∧ x.kd = 1 := by
  have := (committed_mem l 0 i).1 ((sortB_perm _ _).mem_iff.1 h)
  simpa using this
end Go.Proofs.YtjaegddnikkibaaGreatDoor
