/-
  Are attempts one behind the other, plain. No program in sight.
-/
import Derived.Test.YtjaegddnikkibaaGreatDoorOwnPlain
set_option linter.unusedVariables false
set_option linter.unusedSimpArgs false
namespace Go.Proofs.YtjaegddnikkibaaGreatDoor
open Go Go.Sort

/-- the least end of those that stand behind -/
def leastV (l : List Att) : List Int → Int
  | [] => 9223372036854775807
  | n :: r => min (leastV l r) (attN l n).en
def placedB (x : Att) : Bool := if x.wr then decide (x.ck < x.pl) else decide (x.pl = x.ck)
def twinB (l : List Att) (p : Option Int) (x : Att) : Bool :=
  match p with
  | none => false
  | some q => x.wr && (attN l q).wr && decide ((attN l q).pl = x.pl)
def orderedB (l : List Att) (p : Option Int) (x : Att) (r : List Int) (h : Int → Int) : Bool := placedB x && !decide (leastV l r < x.bg) && (!twinB l p x && okV h x.evs)
def scheckGo (l : List Att) : Option Int → List Int → (Int → Int) → Option Int
  | _, [], _ => none
  | p, n :: r, h => if orderedB l p (attN l n) r h then scheckGo l (some n) r (doV h (attN l n).evs) else some n
/-- Check's answer -/
def scheckV (l : List Att) : Int × Int := if checkedV l = 0 then failV 16 (scheckGo l none (orderV l) (fun _ => 0)) else (0, checkedV l)
/-- what they leave behind -/
def heapAll (l : List Att) (o : List Int) : Int → Int := o.foldl (fun h i => doV h (attN l i).evs) (fun _ => 0)

theorem leastV_le (l : List Att) : ∀ (r : List Int) (i : Int), i ∈ r → leastV l r ≤ (attN l i).en
  | [], _, h => by cases h
  | n :: r, i, h => by
    unfold leastV
    rcases List.mem_cons.1 h with rfl | h
    · omega
    · have := leastV_le l r i h; omega
theorem scheckGo_none (l : List Att) : ∀ (o : List Int) (p : Option Int) (h : Int → Int), scheckGo l p o h = none → ∀ n (hn : n < o.length),
    okV ((o.take n).foldl (fun h i => doV h (attN l i).evs) h) (attN l o[n]).evs = true ∧ ∀ k (hk : k < o.length), n < k → ¬ (attN l o[k]).en < (attN l o[n]).bg
  | [], _, _, _, n, hn => by simp at hn
  | i :: r, p, h, hs, n, hn => by
    unfold scheckGo at hs
    split at hs
    · rename_i hb
      unfold orderedB at hb
      simp only [Bool.and_eq_true, Bool.not_eq_true', decide_eq_false_iff_not] at hb
      cases n with
      | zero =>
        refine ⟨hb.2.2, fun k hk h0 => ?_⟩
        cases k with
        | zero => omega
        | succ k =>
          have hk' : k < r.length := by simpa using hk
          have h1 := leastV_le l r r[k] (List.getElem_mem hk')
          have h2 := hb.1.2
          simp only [List.getElem_cons_succ, List.getElem_cons_zero]
          omega
      | succ n =>
        have ih := scheckGo_none l r _ _ hs n (by simpa using hn)
        refine ⟨by simpa using ih.1, fun k hk h0 => ?_⟩
        cases k with
        | zero => omega
        | succ k => simpa using ih.2 k (by simpa using hk) (by omega)
    · cases hs
theorem scheckV_ok {l : List Att} : (scheckV l).2 = 0 ↔ checkedV l = 0 ∧ scheckGo l none (orderV l) (fun _ => 0) = none := by
  unfold scheckV
  by_cases h : checkedV l = 0
  · rw [if_pos h]
    cases scheckGo l none (orderV l) (fun _ => 0) with
    | none => simp [failV, h]
    | some n => simp [failV]
  · rw [if_neg h]; simp [h]
theorem scheckV_kinds (l : List Att) : (checkedV l = 0 → (scheckV l).2 = 0 ∨ (scheckV l).2 = 16) ∧ (checkedV l ≠ 0 → (scheckV l).2 = checkedV l) := by
  unfold scheckV
  constructor
  · intro h
    rw [if_pos h]
    cases scheckGo l none (orderV l) (fun _ => 0) with
    | none => exact Or.inl rfl
    | some n => exact Or.inr rfl
  · intro h
    rw [if_neg h]
/-- each read finds what there is -/
theorem okV_at : ∀ (es : List Ev) (h : Int → Int), okV h es = true → ∀ k (hk : k < es.length), (es[k].kd = 2 ∨ es[k].kd = 4) → doV h (es.take k) es[k].a = es[k].b
  | [], _, _, k, hk, _ => by simp at hk
  | e :: r, h, ho, k, hk, hr => by
    unfold okV at ho
    rw [Bool.and_eq_true] at ho
    cases k with
    | zero =>
      have h1 := ho.1
      rw [if_pos (by simpa using hr)] at h1
      simpa [doV] using h1
    | succ k => simpa [doV] using okV_at r _ ho.2 k (by simpa using hk) hr
theorem reads_at {l : List Att} (h : (scheckV l).2 = 0) {n : Nat} (hn : n < (orderV l).length) {k : Nat} (hk : k < (attN l (orderV l)[n]).evs.length) (hr : (attN l (orderV l)[n]).evs[k].kd = 2 ∨ (attN l (orderV l)[n]).evs[k].kd = 4) :
    doV (heapAll l ((orderV l).take n)) ((attN l (orderV l)[n]).evs.take k) (attN l (orderV l)[n]).evs[k].a = (attN l (orderV l)[n]).evs[k].b :=
  okV_at _ _ (scheckGo_none l _ _ _ (scheckV_ok.1 h).2 n hn).1 k hk hr
theorem ends_at {l : List Att} (h : (scheckV l).2 = 0) {n k : Nat} (hn : n < (orderV l).length) (hk : k < (orderV l).length) (hnk : n < k) : ¬ (attN l (orderV l)[k]).en < (attN l (orderV l)[n]).bg :=
  (scheckGo_none l _ _ _ (scheckV_ok.1 h).2 n hn).2 k hk hnk
/-- what an event changes in a word -/
def chV (e : Ev) (at_ : Int) : Int × Bool := if (e.kd = 3 ∨ e.kd = 5) ∧ e.a = at_ then (e.b, true) else (0, decide (e.kd = 6) && decide (e.a ≤ at_) && decide (at_ - e.a < e.b))
theorem chV_doEv (h : Int → Int) (e : Ev) (at_ : Int) : doEv h e at_ = if (chV e at_).2 then (chV e at_).1 else h at_ := by
  unfold doEv chV
  by_cases h1 : e.kd = 3 ∨ e.kd = 5
  · rw [if_pos h1]
    by_cases h2 : e.a = at_
    · rw [if_pos (show (e.kd = 3 ∨ e.kd = 5) ∧ e.a = at_ from ⟨h1, h2⟩)]
      simp only [if_pos h2.symm, if_true]
    · rw [if_neg (show ¬ ((e.kd = 3 ∨ e.kd = 5) ∧ e.a = at_) from fun h => h2 h.2), show decide (e.kd = 6) = false by simp; omega]
      simp only [if_neg (fun e => h2 (Eq.symm e)), Bool.false_and, Bool.false_eq_true, if_false]
  · rw [if_neg h1, if_neg (show ¬ ((e.kd = 3 ∨ e.kd = 5) ∧ e.a = at_) from fun h => h1 h.1)]
    by_cases h3 : e.kd = 6
    · rw [if_pos h3]
      by_cases h4 : e.a ≤ at_ ∧ at_ < e.a + e.b
      · have h5 : at_ - e.a < e.b := by omega
        simp [h3, h4.1, h4.2, h5]
      · have h5 : (decide (e.kd = 6) && decide (e.a ≤ at_) && decide (at_ - e.a < e.b)) = false := by
          simp only [Bool.and_eq_false_iff, decide_eq_false_iff_not]
          by_cases h8 : e.a ≤ at_
          · exact Or.inr (by omega)
          · exact Or.inl (Or.inr h8)
        simp [h5, h4]
    · rw [if_neg h3]; simp [h3]
end Go.Proofs.YtjaegddnikkibaaGreatDoor
