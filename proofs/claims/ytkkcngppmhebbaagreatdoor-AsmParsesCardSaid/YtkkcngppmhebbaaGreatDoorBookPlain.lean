/-
  The book of lists: rows of the call's own that another row holds; plain.
-/
import Derived.Test.YtkkcngppmhebbaaGreatDoorRowKit
import Derived.Test.YtkkcngppmhebbaaGreatDoorCopyRow
import Derived.Maps.AppendAt
import Derived.Below
set_option linter.unusedVariables false
set_option linter.unusedSimpArgs false
namespace Go.Proofs.YtkkcngppmhebbaaGreatDoor
open Go Go.RowKit

/-- a list that the book holds, with its number -/
structure HRow where
  v : Value
  n : Nat
  xs : List Value
  num : Int
def HRow.cells (r : HRow) : List Value := [r.v, .int .i64 r.num]
structure Held (T Th : TypeId) (E B : Nat) (w : World) (v : Value) (rows : List HRow) : Prop where
  row : w.ownsRow B Th 2 v rows.length (rows.flatMap HRow.cells)
  own : ∀ (i : Nat) (r : HRow), rows[i]? = some r → w.ownsRow B T E r.v r.n r.xs
  apart : ∀ (i j : Nat) (a b : HRow), rows[i]? = some a → rows[j]? = some b → i ≠ j → ∀ g, a.v.ownBlock = some g → b.v.ownBlock ≠ some g

/-- what stays: all below block B, and all of other types -/
structure FrB (B : Nat) (ok : TypeId → Bool) (w w' : World) : Prop where
  os : w'.os = w.os
  tape : w'.tape = w.tape
  output : w'.output = w.output
  size : w.heap.size ≤ w'.heap.size
  block : ∀ i, i < w.heap.size → (i < B ∨ ∀ c t, w.heap[i]? = some (.cells c t (0, 0)) → ok t = false) → w'.heap[i]? = w.heap[i]?

section
variable {B : Nat} {ok : TypeId → Bool} {w w' w2 : World}
theorem FrB.refl (w : World) : FrB B ok w w := ⟨rfl, rfl, rfl, Nat.le_refl _, fun _ _ _ => rfl⟩
theorem FrB.trans (h : FrB B ok w w') (h2 : FrB B ok w' w2) : FrB B ok w w2 :=
  ⟨h2.os.trans h.os, h2.tape.trans h.tape, h2.output.trans h.output, Nat.le_trans h.size h2.size, fun i hi hc => by
    have e := h.block i hi hc
    rw [h2.block i (Nat.lt_of_lt_of_le hi h.size) (hc.imp id (fun hc c t hh => hc c t (by rw [← e]; exact hh))), e]⟩
theorem FrB.ofBelow (h : Below w.heap.size w w') : FrB B ok w w' := ⟨h.os, h.tape, h.output, h.size, fun i hi _ => h.block i hi⟩
theorem FrB.below (h : FrB B ok w w') (hB : B ≤ w.heap.size) : Below B w w' :=
  ⟨h.os, h.tape, h.output, h.size, fun i hi => h.block i (Nat.lt_of_lt_of_le hi hB) (Or.inl hi)⟩
theorem FrB.weak {ok' : TypeId → Bool} (h : FrB B ok w w') (hk : ∀ t, ok' t = false → ok t = false) : FrB B ok' w w' :=
  ⟨h.os, h.tape, h.output, h.size, fun i hi hc => h.block i hi (hc.imp id (fun hc c t hh => hk t (hc c t hh)))⟩
theorem FrB.own (h : FrB B ok w w') {B' e k n : Nat} {v : Value} {xs : List Value} (ho : w.ownsRow B' e k v n xs) (he : ok e = false) : w'.ownsRow B' e k v n xs := by
  refine ⟨ho.1, ho.2.imp id ?_⟩
  rintro ⟨g, cap, cur, rfl, h1, h2, h3⟩
  exact ⟨g, cap, cur, rfl, h1, (h.block g (Array.getElem?_eq_some_iff.1 h2).1 (Or.inr (fun c t hh => by rw [h2] at hh; injection hh with hh; injection hh with _ hh; rw [← hh]; exact he))).trans h2, h3⟩
theorem FrB.held (h : FrB B ok w w') {T Th : TypeId} {E B' : Nat} {v : Value} {rows : List HRow} (hh : Held T Th E B' w v rows) (h1 : ok T = false) (h2 : ok Th = false) : Held T Th E B' w' v rows :=
  ⟨h.own hh.row h2, fun i r hr => h.own (hh.own i r hr) h1, hh.apart⟩
theorem FrB.obj (h : FrB B ok w w') {i : Nat} {c : Array Value} {t : TypeId} (hb : w.heap[i]? = some (.cells c t (0, 0))) (ht : ok t = false) : w'.heap[i]? = some (.cells c t (0, 0)) :=
  (h.block i (Array.getElem?_eq_some_iff.1 hb).1 (Or.inr (fun c' t' hh => by rw [hb] at hh; injection hh with hh; injection hh with _ hh; rw [← hh]; exact ht))).trans hb
/-- a store into an owned row -/
theorem FrB.set {e k n g cap j : Nat} {u : Value} {xs : List Value} (ho : w.ownsRow B e k (.slice (some ⟨g, 0, none⟩) n cap) n xs) (he : ok e = true) : FrB B ok w (w.setCell ⟨g, j, none⟩ u) := by
  rcases ho.2 with ⟨h', _⟩ | ⟨g', cap', cur, h', hb, hg, -⟩
  · cases h'
  · injection h' with h'; injection h' with h'; injection h' with h'; subst h'
    refine ⟨rfl, rfl, rfl, by simp, fun i hi hc => heap_setCell_other w ⟨g, j, none⟩ i u (fun e2 => ?_)⟩
    have e2 : i = g := e2
    subst e2
    rcases hc with hc | hc
    · omega
    · rw [hc _ _ hg] at he; cases he
theorem FrB.grown {e k n : Nat} {v : Value} {xs : List Value} (ho : w.ownsRow B e k v n xs) (he : ok e = true) (hg : w.grownBy w' v.ownBlock) : FrB B ok w w' := by
  refine ⟨hg.os, hg.tape, hg.output, hg.size, fun i hi hc => hg.block i hi (fun e2 => ?_)⟩
  rcases ho.2 with ⟨rfl, _⟩ | ⟨g', cap', cur, rfl, hb, hg2, -⟩
  · cases e2
  · injection e2 with e2
    have e2 : i = g' := e2
    subst e2
    rcases hc with hc | hc
    · omega
    · rw [hc _ _ hg2] at he; cases he
theorem own_alloc_below {B' e k n : Nat} {v : Value} {xs : List Value} (h : w.ownsRow B' e k v n xs) (hb : Below w.heap.size w w') : w'.ownsRow B' e k v n xs := own_belowI h hb
theorem Held.below {T Th : TypeId} {E B' : Nat} {v : Value} {rows : List HRow} (hh : Held T Th E B' w v rows) (hb : Below w.heap.size w w') : Held T Th E B' w' v rows :=
  (FrB.ofBelow (B := 0) (ok := fun _ => false) hb).held hh rfl rfl
/-- a store outside leaves an owned row -/
theorem own_set_other {B' e k n : Nat} {v : Value} {xs : List Value} (h : w.ownsRow B' e k v n xs) {p : Addr} (hp : v.ownBlock ≠ some p.block) (u : Value) : (w.setCell p u).ownsRow B' e k v n xs :=
  h.kept (w' := w.setCell p u) (row := some p.block) ⟨rfl, rfl, rfl, by simp, fun i _ hi => heap_setCell_other w p i u (fun e => hi (by rw [e]))⟩ (Or.inr hp)
end

theorem held_flat_set : ∀ (rows : List HRow) (i : Nat) (r : HRow) (v' : Value), rows[i]? = some r → (rows.flatMap HRow.cells).set (i * 2) v' = (rows.set i { r with v := v' }).flatMap HRow.cells
  | [], _, _, _, h => by simp at h
  | x :: rows, 0, r, v', h => by
    simp only [List.getElem?_cons_zero, Option.some.injEq] at h
    subst h; rfl
  | x :: rows, i + 1, r, v', h => by
    rw [List.getElem?_cons_succ] at h
    have ih := held_flat_set rows i r v' h
    show (x.v :: Value.int .i64 x.num :: rows.flatMap HRow.cells).set ((i + 1) * 2) v' = _
    rw [show (i + 1) * 2 = i * 2 + 1 + 1 by omega, List.set_cons_succ, List.set_cons_succ, ih]; rfl
theorem held_flat_same : ∀ (rows : List HRow) (i : Nat) (r r' : HRow), rows[i]? = some r → r'.cells = r.cells → (rows.set i r').flatMap HRow.cells = rows.flatMap HRow.cells
  | [], _, _, _, h, _ => by simp at h
  | x :: rows, 0, r, r', h, hc => by
    simp only [List.getElem?_cons_zero, Option.some.injEq] at h
    subst h
    rw [List.set_cons_zero, List.flatMap_cons, List.flatMap_cons, hc]
  | x :: rows, i + 1, r, r', h, hc => by
    rw [List.getElem?_cons_succ] at h
    rw [List.set_cons_succ, List.flatMap_cons, List.flatMap_cons, held_flat_same rows i r r' h hc]

section
variable {T Th : TypeId} {E B : Nat} {w w' : World} {v : Value} {rows : List HRow}
theorem Held.ne (h : Held T Th E B w v rows) (hT : T ≠ Th) {i : Nat} {r : HRow} (hr : rows[i]? = some r) : ∀ g, v.ownBlock = some g → r.v.ownBlock ≠ some g :=
  own_ne h.row (h.own i r hr) (Ne.symm hT)
/-- a row is written: its block's stores, nothing else -/
theorem Held.written (h : Held T Th E B w v rows) (hT : T ≠ Th) {i : Nat} {r : HRow} (hr : rows[i]? = some r) {xs' : List Value} (hg : w.grownBy w' r.v.ownBlock) (ho : w'.ownsRow B T E r.v r.n xs') : Held T Th E B w' v (rows.set i { r with xs := xs' }) := by
  have hi : i < rows.length := (List.getElem?_eq_some_iff.1 hr).1
  have key : ∀ (j : Nat) (a : HRow), (rows.set i { r with xs := xs' })[j]? = some a → (j = i ∧ a = { r with xs := xs' }) ∨ (j ≠ i ∧ rows[j]? = some a) := fun j a ha => by
    rw [List.getElem?_set] at ha
    by_cases hj : i = j
    · subst hj
      rw [if_pos rfl, if_pos hi] at ha
      injection ha with ha
      exact Or.inl ⟨rfl, ha.symm⟩
    · rw [if_neg hj] at ha; exact Or.inr ⟨fun e => hj e.symm, ha⟩
  refine ⟨?_, fun j a ha => ?_, fun j k a b ha hb hjk g hag => ?_⟩
  · rw [List.length_set, held_flat_same rows i r { r with xs := xs' } hr rfl]
    exact h.row.kept hg (by
      cases hv : v.ownBlock with
      | none => exact Or.inl rfl
      | some g => exact Or.inr (fun e => h.ne hT hr g hv e.symm))
  · rcases key j a ha with ⟨rfl, rfl⟩ | ⟨hj, ha⟩
    · exact ho
    · exact (h.own j a ha).kept hg (by
        cases hv : a.v.ownBlock with
        | none => exact Or.inl rfl
        | some g => exact Or.inr (fun e => h.apart j i a r ha hr hj g hv e.symm))
  · rcases key j a ha with ⟨rfl, rfl⟩ | ⟨hj, ha2⟩ <;> rcases key k b hb with ⟨rfl, rfl⟩ | ⟨hk, hb2⟩
    · exact absurd rfl hjk
    · exact h.apart _ _ r b hr hb2 hjk g hag
    · exact h.apart _ _ a r ha2 hr hjk g hag
    · exact h.apart _ _ a b ha2 hb2 hjk g hag
/-- a row is appended to, and held anew -/
theorem Held.grew {H cap : Nat} (h : Held T Th E B w (.slice (some ⟨H, 0, none⟩) rows.length cap) rows) (hT : T ≠ Th) {i : Nat} {r : HRow} (hr : rows[i]? = some r) {v' : Value} {n' : Nat} {xs' : List Value}
    (hg : w.grownBy w' r.v.ownBlock) (ho : w'.ownsRow B T E v' n' xs') (hat : v'.ownBlock = r.v.ownBlock ∨ v'.ownBlock = some w.heap.size) :
    Held T Th E B (w'.setCell ⟨H, i * 2, none⟩ v') (.slice (some ⟨H, 0, none⟩) rows.length cap) (rows.set i { r with v := v', n := n', xs := xs' }) ∧ w'.ownsRow B Th 2 (.slice (some ⟨H, 0, none⟩) rows.length cap) rows.length (rows.flatMap HRow.cells) := by
  have hi : i < rows.length := (List.getElem?_eq_some_iff.1 hr).1
  have hrow : w'.ownsRow B Th 2 (.slice (some ⟨H, 0, none⟩) rows.length cap) rows.length (rows.flatMap HRow.cells) := h.row.kept hg (Or.inr (fun e => h.ne hT hr H rfl e.symm))
  have hlt : ∀ (j : Nat) (a : HRow) g, rows[j]? = some a → a.v.ownBlock = some g → g < w.heap.size := fun j a g ha hag => ((h.own j a ha).lt g hag).2
  have hne : ∀ (j : Nat) (a : HRow), rows[j]? = some a → j ≠ i → ∀ g, a.v.ownBlock = some g → v'.ownBlock ≠ some g := fun j a ha hj g hag e => by
    rcases hat with hat | hat
    · rw [hat] at e; exact h.apart j i a r ha hr hj g hag e
    · rw [hat] at e; injection e with e; have := hlt j a g ha hag; omega
  have key : ∀ (j : Nat) (a : HRow), (rows.set i { r with v := v', n := n', xs := xs' })[j]? = some a → (j = i ∧ a = { r with v := v', n := n', xs := xs' }) ∨ (j ≠ i ∧ rows[j]? = some a) := fun j a ha => by
    rw [List.getElem?_set] at ha
    by_cases hj : i = j
    · subst hj
      rw [if_pos rfl, if_pos hi] at ha
      injection ha with ha
      exact Or.inl ⟨rfl, ha.symm⟩
    · rw [if_neg hj] at ha; exact Or.inr ⟨fun e => hj e.symm, ha⟩
  refine ⟨⟨?_, fun j a ha => ?_, fun j k a b ha hb hjk g hag => ?_⟩, hrow⟩
  · rw [List.length_set]
    have h2 := (hrow.stored (i * 2) v').1
    rw [held_flat_set rows i r v' hr] at h2
    have e : (rows.set i { r with v := v' }).flatMap HRow.cells = (rows.set i { r with v := v', n := n', xs := xs' }).flatMap HRow.cells := by
      have := held_flat_same (rows.set i { r with v := v' }) i { r with v := v' } { r with v := v', n := n', xs := xs' } (by rw [List.getElem?_set, if_pos rfl, if_pos hi]) rfl
      rw [List.set_set] at this
      exact this.symm
    rw [e] at h2
    exact h2
  · rcases key j a ha with ⟨rfl, rfl⟩ | ⟨hj, ha⟩
    · exact own_set_other ho (fun e => own_ne hrow ho (Ne.symm hT) H rfl e) v'
    · have h3 := (h.own j a ha).kept hg (by
        cases hv : a.v.ownBlock with
        | none => exact Or.inl rfl
        | some g => exact Or.inr (fun e => h.apart j i a r ha hr hj g hv e.symm))
      exact own_set_other h3 (fun e => own_ne hrow h3 (Ne.symm hT) H rfl e) v'
  · rcases key j a ha with ⟨rfl, rfl⟩ | ⟨hj, ha2⟩ <;> rcases key k b hb with ⟨rfl, rfl⟩ | ⟨hk, hb2⟩
    · exact absurd rfl hjk
    · intro e; exact hne _ b hb2 hk g e hag
    · exact hne _ a ha2 hj g hag
    · exact h.apart _ _ a b ha2 hb2 hjk g hag
/-- one list more is held -/
theorem Held.kept1 (h : Held T Th E B w v rows) (hT : T ≠ Th) {r : HRow} (hr : w.ownsRow B T E r.v r.n r.xs) (ha : ∀ (i : Nat) (a : HRow), rows[i]? = some a → ∀ g, a.v.ownBlock = some g → r.v.ownBlock ≠ some g) {v' : Value}
    (hg : w.grownBy w' v.ownBlock) (ho : w'.ownsRow B Th 2 v' (rows.length + 1) (rows.flatMap HRow.cells ++ r.cells)) : Held T Th E B w' v' (rows ++ [r]) := by
  have kept : ∀ a : HRow, w.ownsRow B T E a.v a.n a.xs → w'.ownsRow B T E a.v a.n a.xs := fun a hh => hh.kept hg (by
    cases hv : a.v.ownBlock with
    | none => exact Or.inl rfl
    | some g => exact Or.inr (fun e => own_ne hh h.row hT g hv e.symm))
  have key : ∀ (j : Nat) (a : HRow), (rows ++ [r])[j]? = some a → rows[j]? = some a ∨ (j = rows.length ∧ a = r) := fun j a hj => by
    rcases Nat.lt_or_ge j rows.length with h1 | h1
    · rw [List.getElem?_append_left h1] at hj; exact Or.inl hj
    · rw [List.getElem?_append_right h1] at hj
      have : j - rows.length = 0 := by
        have := (List.getElem?_eq_some_iff.1 hj).1
        simp at this; omega
      rw [this] at hj
      injection hj with hj
      exact Or.inr ⟨by omega, hj.symm⟩
  refine ⟨by rw [List.length_append, List.flatMap_append]; simpa using ho, fun j a hj => ?_, fun j k a b hj hk hjk g hag => ?_⟩
  · rcases key j a hj with hj | ⟨-, rfl⟩
    · exact kept a (h.own j a hj)
    · exact kept a hr
  · rcases key j a hj with hj2 | ⟨hj2, rfl⟩ <;> rcases key k b hk with hk2 | ⟨hk2, rfl⟩
    · exact h.apart _ _ a b hj2 hk2 hjk g hag
    · exact ha _ a hj2 g hag
    · intro e; exact ha _ b hk2 g e hag
    · omega
end

/-- a list all of marks -/
def marksOf (m : Int → List Value) (num : Int) (n : Nat) : List Value := (List.replicate n (m num)).flatten
theorem marksOf_len (m : Int → List Value) (num : Int) {k : Nat} (hk : (m num).length = k) : ∀ n, (marksOf m num n).length = n * k
  | 0 => by simp [marksOf]
  | n + 1 => by
    have ih := marksOf_len m num hk n
    unfold marksOf at *
    rw [List.replicate_succ, List.flatten_cons, List.length_append, ih, hk, Nat.succ_mul]; omega
theorem marksOf_snoc (m : Int → List Value) (num : Int) (n : Nat) : marksOf m num (n + 1) = marksOf m num n ++ m num := by
  unfold marksOf
  rw [List.replicate_succ', List.flatten_append]; simp
theorem marksOf_get (m : Int → List Value) (num : Int) {k : Nat} (hk : (m num).length = k) : ∀ (n i j : Nat), i < n → j < k → (marksOf m num n)[i * k + j]? = (m num)[j]?
  | 0, _, _, h, _ => by omega
  | n + 1, i, j, h, hj => by
    rw [marksOf_snoc]
    have hl := marksOf_len m num hk n
    by_cases hi : i < n
    · have : i * k + j < n * k := by
        have := Nat.mul_le_mul_right k hi
        rw [Nat.succ_mul] at this; omega
      rw [List.getElem?_append_left (by omega)]
      exact marksOf_get m num hk n i j hi hj
    · have : i = n := by omega
      subst this
      rw [List.getElem?_append_right (by omega), hl, Nat.add_sub_cancel_left]
/-- one mark more, written over -/
theorem marks_over (m : Int → List Value) (num : Int) {E n : Nat} (hE : (m num).length = E) (xs : List Value) (hx : xs.length = n * E) {k : Nat} (hk : k < n) :
    ∃ ys, ys.length = E ∧ marksOf m num k ++ xs.drop (k * E) = marksOf m num k ++ (ys ++ xs.drop ((k + 1) * E)) ∧ marksOf m num (k + 1) ++ xs.drop ((k + 1) * E) = marksOf m num k ++ (m num ++ xs.drop ((k + 1) * E)) := by
  have h1 : (k + 1) * E ≤ n * E := Nat.mul_le_mul_right _ hk
  rw [Nat.succ_mul] at h1
  refine ⟨(xs.drop (k * E)).take E, by rw [List.length_take, List.length_drop]; omega, ?_, ?_⟩
  · rw [Nat.succ_mul, ← List.drop_drop, List.take_append_drop]
  · rw [marksOf_snoc, List.append_assoc]

theorem own_putMid {base : Nat} {e : TypeId} {k g n cap : Nat} : ∀ (us ys pre rest : List Value) (w : World), w.ownsRow base e k (.slice (some ⟨g, 0, none⟩) n cap) n (pre ++ (ys ++ rest)) → ys.length = us.length →
    (putAll w g pre.length us).ownsRow base e k (.slice (some ⟨g, 0, none⟩) n cap) n (pre ++ (us ++ rest))
  | [], ys, pre, rest, w, h, hl => by
    obtain rfl : ys = [] := List.eq_nil_of_length_eq_zero hl
    exact h
  | u :: us, [], pre, rest, w, h, hl => by simp at hl
  | u :: us, y :: ys, pre, rest, w, h, hl => by
    have h1 := (World.ownsRow.stored h pre.length u).1
    rw [List.set_append_right _ _ (Nat.le_refl _), Nat.sub_self, List.cons_append, List.set_cons_zero] at h1
    have ih := own_putMid us ys (pre ++ [u]) rest (w.setCell ⟨g, pre.length, none⟩ u) (by rw [List.append_assoc]; exact h1) (by simpa using hl)
    rw [List.append_assoc, List.length_append, List.length_singleton] at ih
    exact ih
theorem putAll_grown {g : Nat} : ∀ (us : List Value) (o : Nat) (w : World), w.grownBy (putAll w g o us) (some g)
  | [], _, w => ⟨rfl, rfl, rfl, Nat.le_refl _, fun _ _ _ => rfl⟩
  | u :: us, o, w => by
    have ih := putAll_grown (g := g) us (o + 1) (w.setCell ⟨g, o, none⟩ u)
    have e : w.heap.size = (w.setCell ⟨g, o, none⟩ u).heap.size := by simp
    refine ⟨ih.os, ih.tape, ih.output, by rw [e]; exact ih.size, fun k hk hne => ?_⟩
    exact (ih.block k (by rw [← e]; exact hk) hne).trans (heap_setCell_other w ⟨g, o, none⟩ k u (fun e => hne (by rw [e])))

/-- a list the first k of which are turned -/
def half {α : Type} (f : α → α) (l : List α) (k : Nat) : List α := (l.take k).map f ++ l.drop k
theorem half_at {α : Type} (f : α → α) (l : List α) (k : Nat) (h : k < l.length) : (half f l k)[k]? = some l[k] := by
  unfold half
  have h1 : ((l.take k).map f).length = k := by rw [List.length_map, List.length_take]; omega
  rw [List.getElem?_append_right (by omega), h1, Nat.sub_self, List.drop_eq_getElem_cons h]
  rfl
theorem half_next {α : Type} (f : α → α) (l : List α) (k : Nat) (h : k < l.length) : (half f l k).set k (f l[k]) = half f l (k + 1) := by
  unfold half
  have h1 : ((l.take k).map f).length = k := by rw [List.length_map, List.length_take]; omega
  rw [List.set_append_right _ _ (by omega), h1, Nat.sub_self, List.drop_eq_getElem_cons h, List.set_cons_zero, List.take_succ_eq_append_getElem h, List.map_append, List.append_assoc]
  rfl
theorem half_all {α : Type} (f : α → α) (l : List α) : half f l l.length = l.map f := by unfold half; simp
theorem half_size {α : Type} (f : α → α) (l : List α) (k : Nat) : (half f l k).length = l.length := by
  unfold half
  rw [List.length_append, List.length_map, List.length_take, List.length_drop]; omega
theorem set_self {α : Type} {l : List α} {i : Nat} {a : α} (h : l[i]? = some a) : l.set i a = l := by
  apply List.ext_getElem?
  intro j
  rw [List.getElem?_set]
  by_cases hj : i = j
  · subst hj
    have hi : i < l.length := (List.getElem?_eq_some_iff.1 h).1
    rw [if_pos rfl, if_pos hi, h]
  · rw [if_neg hj]
theorem set_at {α : Type} {l : List α} {i : Nat} (a : α) (h : i < l.length) : (l.set i a)[i]? = some a := by rw [List.getElem?_set, if_pos rfl, if_pos h]

def filled (m : Int → List Value) (r : HRow) : HRow := { r with xs := marksOf m r.num r.n }
/-- a row whose first k elements are marks -/
def fillK (m : Int → List Value) (E : Nat) (r : HRow) (k : Nat) : HRow := { r with xs := marksOf m r.num k ++ r.xs.drop (k * E) }
theorem fillK_zero (m : Int → List Value) (E : Nat) (r : HRow) : fillK m E r 0 = r := by unfold fillK marksOf; simp
theorem fillK_all (m : Int → List Value) {E : Nat} {r : HRow} (h : r.xs.length = r.n * E) : fillK m E r r.n = filled m r := by
  unfold fillK filled
  rw [List.drop_eq_nil_of_le (by omega), List.append_nil]
theorem flat_cells_at : ∀ (rows : List HRow) (i : Nat) (r : HRow), rows[i]? = some r → (rows.flatMap HRow.cells)[i * 2]? = some r.v ∧ (rows.flatMap HRow.cells)[i * 2 + 1]? = some (.int .i64 r.num)
  | [], _, _, h => by simp at h
  | x :: rows, 0, r, h => by
    simp only [List.getElem?_cons_zero, Option.some.injEq] at h
    subst h; exact ⟨rfl, rfl⟩
  | x :: rows, i + 1, r, h => by
    rw [List.getElem?_cons_succ] at h
    have ih := flat_cells_at rows i r h
    show ((x.v :: Value.int .i64 x.num :: rows.flatMap HRow.cells))[(i + 1) * 2]? = _ ∧ ((x.v :: Value.int .i64 x.num :: rows.flatMap HRow.cells))[(i + 1) * 2 + 1]? = _
    rw [show (i + 1) * 2 = i * 2 + 1 + 1 by omega, List.getElem?_cons_succ, List.getElem?_cons_succ, List.getElem?_cons_succ, List.getElem?_cons_succ]
    exact ih
section
variable {T Th : TypeId} {E B H n cap : Nat} {w : World} {v : Value} {rows : List HRow}
theorem Held.cells (h : Held T Th E B w (.slice (some ⟨H, 0, none⟩) n cap) rows) {i : Nat} {r : HRow} (hr : rows[i]? = some r) :
    w.cell? ⟨H, i * 2, none⟩ = some r.v ∧ w.cell? ⟨H, i * 2 + 1, none⟩ = some (.int .i64 r.num) ∧ ∀ j, w.frozen? ⟨H, j, none⟩ = false := by
  have hi : i < rows.length := (List.getElem?_eq_some_iff.1 hr).1
  have hrow := h.row
  have hn : n = rows.length := by
    rcases hrow.2 with ⟨h', _⟩ | ⟨g', cap', cur, h', -⟩
    · cases h'
    · injection h'
  subst hn
  obtain ⟨h1, h2⟩ := flat_cells_at rows i r hr
  exact ⟨(hrow.cellAt (i * 2) (by omega)).trans h1, (hrow.cellAt (i * 2 + 1) (by omega)).trans h2, fun j => hrow.frozenAt j⟩
/-- where the held rows lie -/
theorem Held.slice (h : Held T Th E B w v rows) (hne : 0 < rows.length) : ∃ H cap, v = .slice (some ⟨H, 0, none⟩) rows.length cap := by
  rcases h.row.2 with ⟨-, h0⟩ | ⟨g, cap, cur, rfl, -⟩
  · omega
  · exact ⟨g, cap, rfl⟩
theorem Held.len (h : Held T Th E B w v rows) : ∃ A cap, v = .slice A rows.length cap := by
  rcases h.row.2 with ⟨rfl, h0⟩ | ⟨g, cap, cur, rfl, -⟩
  · exact ⟨none, 0, by rw [h0]⟩
  · exact ⟨_, cap, rfl⟩
/-- one element more is a mark -/
theorem Held.mark1 (h : Held T Th E B w v rows) (hT : T ≠ Th) (m : Int → List Value) {i k g cap : Nat} {r : HRow} (hE : (m r.num).length = E) (hr : rows[i]? = some (fillK m E r k)) (hl : r.xs.length = r.n * E) (hk : k < r.n) (hv : r.v = .slice (some ⟨g, 0, none⟩) r.n cap) :
    Held T Th E B (putAll w g (k * E) (m r.num)) v (rows.set i (fillK m E r (k + 1))) ∧ FrB B (fun t => t == T) w (putAll w g (k * E) (m r.num)) := by
  have ho := h.own i _ hr
  obtain ⟨ys, hy1, hy2, hy3⟩ := marks_over m r.num hE r.xs hl hk
  have ho2 : w.ownsRow B T E (.slice (some ⟨g, 0, none⟩) r.n cap) r.n (marksOf m r.num k ++ (ys ++ r.xs.drop ((k + 1) * E))) := by
    rw [← hy2, ← hv]; exact ho
  have h3 := own_putMid (m r.num) ys (marksOf m r.num k) _ w ho2 (by omega)
  rw [marksOf_len m r.num hE k, ← hy3, ← hv] at h3
  have hg : w.grownBy (putAll w g (k * E) (m r.num)) r.v.ownBlock := by rw [hv]; exact putAll_grown _ _ _
  refine ⟨?_, FrB.grown ho (by simp) hg⟩
  exact h.written hT hr (xs' := marksOf m r.num (k + 1) ++ r.xs.drop ((k + 1) * E)) hg h3
end
/-- lists all of marks -/
def AllM (m : Int → List Value) (b : Nat) (rows : List HRow) : Prop := ∀ (i : Nat) (r : HRow), rows[i]? = some r → r.xs = marksOf m r.num r.n ∧ r.n ≤ b ∧ 0 ≤ r.num ∧ r.num ≤ 1000
theorem AllM.set {m : Int → List Value} {b b' : Nat} {rows : List HRow} (h : AllM m b rows) (hb : b ≤ b') {i : Nat} {r : HRow} (hr : r.xs = marksOf m r.num r.n ∧ r.n ≤ b' ∧ 0 ≤ r.num ∧ r.num ≤ 1000) : AllM m b' (rows.set i r) := fun j a ha => by
  rw [List.getElem?_set] at ha
  by_cases hj : i = j
  · rw [if_pos hj] at ha
    split at ha
    · injection ha with ha; subst ha; exact hr
    · cases ha
  · rw [if_neg hj] at ha
    obtain ⟨h1, h2, h3⟩ := h j a ha
    exact ⟨h1, by omega, h3⟩
theorem AllM.mono {m : Int → List Value} {b b' : Nat} {rows : List HRow} (h : AllM m b rows) (hb : b ≤ b') : AllM m b' rows := fun j a ha => by
  obtain ⟨h1, h2, h3⟩ := h j a ha
  exact ⟨h1, by omega, h3⟩
theorem AllM.filled {m : Int → List Value} {b : Nat} {rows : List HRow} (h : ∀ r ∈ rows, r.n ≤ b ∧ 0 ≤ r.num ∧ r.num ≤ 1000) : AllM m b (rows.map (filled m)) := fun j a ha => by
  rw [List.getElem?_map] at ha
  obtain ⟨r, hr, rfl⟩ := Option.map_eq_some_iff.1 ha
  exact ⟨rfl, h r (List.mem_of_getElem? hr)⟩

section
variable {P : Program} {w : World}
theorem wp_append_own_at {o : Oper} {a : Act} {K : Act → World → Prop} {Q : Exit → Act → World → Prop} (s x : Operand) (t : TypeId)
    (ho : o.op = .call { callee := .builtin .append, args := #[s, x], argTypes := #[t, t] })
    (base : Nat) (e : TypeId) (i : TypeInfo) (z : Value) (size bytes : Nat) (ht : P.underlying t = some (.slice e)) (hi : P.info? e = some i) (hz : i.zero = some z)
    (hsize : i.size = size) (hby : i.bytes = bytes) (hzs : z.cells.size = size) (hsz : 0 < size)
    (v : Value) (n : Nat) (xs : List Value) (hs : a.eval s = v) (hown : w.ownsRow base e size v n xs)
    (ad : Addr) (m c : Nat) (news : List Value) (hx : a.eval x = .slice (some ad) m c) (hl : news.length = m * size) (hnews : ∀ j u, news[j]? = some u → w.cell? (ad.add j) = some u) (h1 : ∀ u ∈ news, u.oneCell' = true)
    (h63 : n + m ≤ maxLen) (hbytes : (n + m) * bytes ≤ 140737488355328) (hbase : base ≤ w.heap.size)
    (h : ∀ v' w', w'.ownsRow base e size v' (n + m) (xs ++ news) → w.grownBy w' v.ownBlock → (v'.ownBlock = v.ownBlock ∨ v'.ownBlock = some w.heap.size) → K (a.put o.dst v') w') : o.wp P a w K Q := by
  obtain ⟨v', w', hr, h2, h3, h4, h5⟩ := run_append_own_at (P := P) w base t o.type e i z size bytes ht hi hz hsize hby hzs hsz v n xs hown ad m c news hl hnews h1 h63 hbytes hbase
  unfold Oper.wp execOp
  simp only [ho, resolve, invoke, builtin, Sem.run_bind, Sem.run_pure, Result.andThen_ok, List.map_toArray, List.map_cons, List.map_nil, hs, hx, hr]
  exact h v' w' h2 h3 h5
end

/-- a store into the book itself -/
theorem FrB.setObj {B : Nat} {ok : TypeId → Bool} {w : World} {K j : Nat} {kc : Array Value} {t : TypeId} (hB : B ≤ K) (hK : w.heap[K]? = some (.cells kc t (0, 0))) (ht : ok t = true) (u : Value) : FrB B ok w (w.setCell ⟨K, j, none⟩ u) :=
  ⟨rfl, rfl, rfl, by simp, fun i _ hc => heap_setCell_other w ⟨K, j, none⟩ i u (fun e => by
    have e : i = K := e
    subst e
    rcases hc with hc | hc
    · omega
    · rw [hc _ _ hK] at ht; cases ht)⟩
theorem Held.setObj {T Th : TypeId} {E B : Nat} {w : World} {v : Value} {rows : List HRow} {K j : Nat} {kc : Array Value} {t : TypeId} (h : Held T Th E B w v rows) (hK : w.heap[K]? = some (.cells kc t (0, 0))) (h1 : t ≠ T) (h2 : t ≠ Th) (u : Value) : Held T Th E B (w.setCell ⟨K, j, none⟩ u) v rows :=
  (FrB.setObj (B := 0) (ok := fun x => x == t) (Nat.zero_le _) hK (by simp) u).held h (by simpa using Ne.symm h1) (by simpa using Ne.symm h2)
end Go.Proofs.YtkkcngppmhebbaaGreatDoor
