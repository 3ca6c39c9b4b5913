/-
  Attempts that may be: their events, how many; closed attempts in memory.
-/
import Derived.Test.YtjaegddnikkibaaGreatDoorOrdPlain
import Derived.Test.YtjaegddnikkibaaGreatDoorRowKit
set_option linter.unusedVariables false
set_option linter.unusedSimpArgs false
namespace Go.Proofs.YtjaegddnikkibaaGreatDoor
open Go.RowKit Go.Sort Go.Maps

def evSum (l : List Att) : List Int → Nat
  | [] => 0
  | i :: o => (attN l i).evs.length + evSum l o
theorem evSum_append (l : List Att) : ∀ (a b : List Int), evSum l (a ++ b) = evSum l a + evSum l b
  | [], b => by simp [evSum]
  | i :: a, b => by simp only [List.cons_append, evSum]; rw [evSum_append l a b]; omega
theorem evSum_take (l : List Att) (o : List Int) (k : Nat) : evSum l (o.take k) ≤ evSum l o := by
  conv => rhs; rw [← List.take_append_drop k o]
  rw [evSum_append]; omega
theorem evSum_perm {l : List Att} {a b : List Int} (h : a.Perm b) : evSum l a = evSum l b := by
  induction h with
  | nil => rfl
  | cons x _ ih => simp only [evSum]; omega
  | swap x y _ => simp only [evSum]; omega
  | trans _ _ h1 h2 => omega
theorem evSum_committed (l : List Att) : ∀ (r : List Att) (k : Nat), (∀ j x, r[j]? = some x → l[k + j]? = some x) → evSum l (committed k r) ≤ totalSize r
  | [], k, _ => by simp [committed, evSum, totalSize]
  | x :: r, k, h => by
    have ih := evSum_committed l r (k + 1) (fun j y hy => by rw [show k + 1 + j = k + (j + 1) by omega]; exact h (j + 1) y (by simpa using hy))
    have hx := h 0 x (by simp)
    have e : attN l (k : Int) = x := by
      unfold attN
      rw [Int.toNat_natCast, List.getD_eq_getElem?_getD]
      rw [Nat.add_zero] at hx
      rw [hx]; rfl
    unfold committed totalSize
    split
    · simp only [evSum]; rw [e]; omega
    · omega
theorem evSum_order {l : List Att} : evSum l (orderV l) ≤ totalSize l := by
  rw [show evSum l (orderV l) = evSum l (committed 0 l) from evSum_perm (sortB_perm _ _)]
  exact evSum_committed l l 0 (fun j x hx => by rw [Nat.zero_add]; exact hx)

def heapStep (l : List Att) (n : Int) (h : Int → Int) (i : Int) : Int → Int := if i ≠ n ∧ (attN l i).pl ≤ (attN l n).ck then doV h (attN l i).evs else h
theorem heapV_eq (l : List Att) (o : List Int) (n : Int) : heapV l o n = o.foldl (heapStep l n) (fun _ => 0) := rfl
theorem heap_take (l : List Att) (n : Int) (o : List Int) {k : Nat} (hk : k < o.length) : (o.take (k + 1)).foldl (heapStep l n) (fun _ => 0) = heapStep l n ((o.take k).foldl (heapStep l n) (fun _ => 0)) o[k] := by
  rw [List.take_succ_eq_append_getElem hk, List.foldl_append]; rfl
theorem attN_get {l : List Att} {j : Nat} (h : j < l.length) : attN l (j : Int) = l[j] := by
  unfold attN
  rw [Int.toNat_natCast, List.getD_eq_getElem?_getD, List.getElem?_eq_getElem h]; rfl

theorem evs_le_total : ∀ (l : List Att) (x : Att), x ∈ l → x.evs.length ≤ totalSize l
  | [], _, h => by cases h
  | y :: r, x, h => by
    unfold totalSize
    rcases List.mem_cons.1 h with rfl | h
    · omega
    · have := evs_le_total r x h; omega
theorem okFrom_all : ∀ (l : List Att) (p : Option Int), okFrom p l = true → ∀ x ∈ l, attB x = true
  | [], _, _, x, hx => by cases hx
  | y :: r, p, h, x, hx => by
    unfold okFrom at h
    simp only [Bool.and_eq_true] at h
    rcases List.mem_cons.1 hx with rfl | hx
    · exact h.1.1
    · exact okFrom_all r _ h.2 x hx
theorem checked_ok {l : List Att} (h : checkedV l = 0) : totalSize l ≤ 1048576 ∧ ∀ x ∈ l, attB x = true := by
  unfold checkedV at h
  split at h
  · cases h
  · split at h
    · rename_i h1 h2; exact ⟨by omega, okFrom_all l _ h2⟩
    · cases h
theorem attB_evs {x : Att} (h : attB x = true) : ∀ e ∈ x.evs, evB x.th e = true := by
  unfold attB at h
  simp only [Bool.and_eq_true] at h
  exact List.all_eq_true.1 h.2
theorem order_len (l : List Att) : (orderV l).length ≤ l.length := by
  have h := (sortB_perm (stB id (ltN l)) (committed 0 l)).length_eq
  have := committed_len l 0
  unfold orderV
  omega

theorem grownAlloc (w : World) (o : Obj) (row : Option Nat) : w.grownBy (w.alloc o).drew row := ⟨rfl, rfl, rfl, by simp, fun i hi _ => Below.heap_alloc w o i hi⟩
theorem evsLe : ∀ (l : List Att) (x : Att), x ∈ l → x.evs.length ≤ totalSize l
  | [], _, h => by cases h
  | y :: r, x, h => by
    unfold totalSize
    rcases List.mem_cons.1 h with rfl | h
    · omega
    · have := evsLe r x h; omega

theorem okFromAll : ∀ (l : List Att) (p : Option Int), okFrom p l = true → ∀ x ∈ l, attB x = true
  | [], _, _, x, hx => by cases hx
  | y :: r, p, h, x, hx => by
    unfold okFrom at h
    simp only [Bool.and_eq_true] at h
    rcases List.mem_cons.1 hx with rfl | hx
    · exact h.1.1
    · exact okFromAll r _ h.2 x hx
theorem checkedOk {l : List Att} (h : checkedV l = 0) : totalSize l ≤ 1048576 ∧ ∀ x ∈ l, ∀ e ∈ x.evs, evB x.th e = true := by
  unfold checkedV at h
  split at h
  · cases h
  · split at h
    · rename_i h1 h2
      refine ⟨by omega, fun x hx => ?_⟩
      have h3 := okFromAll l _ h2 x hx
      unfold attB at h3
      simp only [Bool.and_eq_true] at h3
      exact List.all_eq_true.1 h3.2
    · cases h
theorem attsAt_of {W : World} {b : Nat} {l : List Att} {t : TypeId} {fr : Nat × Nat} (hb : W.heap[b]? = some (.cells (l.flatMap Att.cells).toArray t fr)) (he : ∀ x ∈ l, EvsAt W W.heap.size x.dA x.evs) : AttsAt W W.heap.size (some ⟨b, 0, none⟩) l := by
  refine ⟨fun _ => ⟨b, 0, rfl, (Array.getElem?_eq_some_iff.1 hb).1, fun k x hk => ?_⟩, he⟩
  have key : ∀ j, j < 8 → W.cell? ⟨b, 0 + k * 8 + j, none⟩ = x.cells[j]? := fun j hj => by
    rw [Nat.zero_add]
    have := flat_at Att.cells 8 (fun _ => rfl) l k j x hk hj
    simp only [World.cell?, hb, Option.isSome_none, Bool.false_eq_true, if_false, List.getElem?_toArray]
    exact this
  exact ⟨key 0 (by decide), key 1 (by decide), key 2 (by decide), key 3 (by decide), key 4 (by decide), key 5 (by decide), key 6 (by decide), key 7 (by decide)⟩
theorem evsAt_of {W : World} {b : Nat} {l : List Ev} {t : TypeId} {fr : Nat × Nat} (hb : W.heap[b]? = some (.cells (l.flatMap Ev.cells).toArray t fr)) : EvsAt W W.heap.size (some ⟨b, 0, none⟩) l := by
  refine fun _ => ⟨b, 0, rfl, (Array.getElem?_eq_some_iff.1 hb).1, fun k x hk => ?_⟩
  have key : ∀ j, j < 4 → W.cell? ⟨b, 0 + k * 4 + j, none⟩ = x.cells[j]? := fun j hj => by
    rw [Nat.zero_add]
    have := flat_at Ev.cells 4 (fun _ => rfl) l k j x hk hj
    simp only [World.cell?, hb, Option.isSome_none, Bool.false_eq_true, if_false, List.getElem?_toArray]
    exact this
  exact ⟨key 0 (by decide), key 1 (by decide), key 2 (by decide), key 3 (by decide)⟩
theorem evsAt_one {W : World} {b : Nat} {e : Ev} (h : EvAt W b 0 e) : EvsAt W W.heap.size (some ⟨b, 0, none⟩) [e] := fun _ => ⟨b, 0, rfl, World.block_lt_of_cell? _ _ h.c0, fun k x hk => by
  match k, hk with
  | 0, hk =>
    simp only [List.getElem?_cons_zero, Option.some.injEq] at hk
    subst hk
    exact h⟩
theorem evAt_new (w : World) (th kd a b : Int) (t : TypeId) : EvAt (w.alloc (.cells #[.int .i64 th, .int .u8 kd, .int .i64 a, .int .i64 b] t (0, 0))) w.heap.size 0 ⟨th, kd, a, b⟩ := ⟨by simp, by simp, by simp, by simp⟩

def i64B (n : Int) : Bool := decide (-9223372036854775808 ≤ n) && decide (n ≤ 9223372036854775807)
def okEvB (e : Ev) : Bool := i64B e.th && (decide (0 ≤ e.kd) && decide (e.kd ≤ 255)) && i64B e.a && i64B e.b
def okAttB (x : Att) : Bool := i64B x.th && (decide (0 ≤ x.kd) && decide (x.kd ≤ 255)) && i64B x.bg && i64B x.en && i64B x.ck && i64B x.pl && decide (x.evs.length ≤ 1000) && x.evs.all okEvB
theorem i64_of {n : Int} (h : i64B n = true) : i64ok n := by
  unfold i64B at h; simp only [Bool.and_eq_true, decide_eq_true_eq] at h; exact h
theorem ok_of {l : List Att} (h : l.all okAttB = true) : ∀ x ∈ l, x.Ok := fun x hx => by
  have h1 := List.all_eq_true.1 h x hx
  unfold okAttB at h1
  simp only [Bool.and_eq_true, decide_eq_true_eq] at h1
  obtain ⟨⟨⟨⟨⟨⟨⟨a0, a1⟩, a2⟩, a3⟩, a4⟩, a5⟩, a6⟩, a7⟩ := h1
  refine ⟨i64_of a0, a1, i64_of a2, i64_of a3, i64_of a4, i64_of a5, by omega, fun e he => ?_⟩
  have h2 := List.all_eq_true.1 a7 e he
  unfold okEvB at h2
  simp only [Bool.and_eq_true, decide_eq_true_eq] at h2
  exact ⟨i64_of h2.1.1.1, h2.1.1.2, i64_of h2.1.2, i64_of h2.2⟩

/-- the checks of closed attempts -/
theorem mem_two {p : Att → Prop} {x y : Att} (h1 : p x) (h2 : p y) : ∀ z ∈ [x, y], p z := fun z hz => by
  simp only [List.mem_cons, List.not_mem_nil, or_false] at hz
  rcases hz with rfl | rfl <;> assumption
theorem mem_one {p : Att → Prop} {x : Att} (h1 : p x) : ∀ z ∈ [x], p z := fun z hz => by
  simp only [List.mem_cons, List.not_mem_nil, or_false] at hz
  subst hz; exact h1
end Go.Proofs.YtjaegddnikkibaaGreatDoor
