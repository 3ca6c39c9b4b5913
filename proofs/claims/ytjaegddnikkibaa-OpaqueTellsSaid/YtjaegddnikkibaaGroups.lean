/-
  A map from int64 to int, and a map from int64 to lists of int, of the call's own, read as functions. No program in sight.
-/
import Derived.Test.YtjaegddnikkibaaHeapMap
import Derived.Maps.OwnRows
import Derived.Maps.GroupsBeside
set_option linter.unusedVariables false
set_option linter.unusedSimpArgs false
namespace Go.Proofs.Ytjaegddnikkibaa
open Go Go.Maps Go.RowKit Go.WideElems

/-- block b is a map of at most n entries that reads as f -/
def MapAt (P : Program) (k e : TypeId) (w : World) (b n : Nat) (f : Int → Int) : Prop :=
  ∃ D : DataW Unit, w.ownsMap P k (plainElem P e) b n D ∧ ∀ x, (Lit.int .i64 x).wf = true → D.atKey (.int .i64 x) (.lit (.int .i64 0)) = .lit (.int .i64 (f x))

section
variable {P : Program} {k e t : TypeId} {w : World} {b n : Nat} {f : Int → Int}
theorem MapAt.made (P : Program) (k e : TypeId) (w : World) : MapAt P k e (w.alloc (.map #[] 0)) w.heap.size 0 (fun _ => 0) :=
  ⟨_, World.ownsMap_made w P k _, fun _ _ => rfl⟩
theorem MapAt.drewN (h : MapAt P k e w b n f) (q : Nat) : MapAt P k e (w.drewN q) b n f := h
theorem MapAt.drew (h : MapAt P k e w b n f) : MapAt P k e w.drew b n f := h
theorem MapAt.of_block {w' : World} (h : MapAt P k e w b n f) (hb : w'.heap[b]? = w.heap[b]?) : MapAt P k e w' b n f := by
  obtain ⟨D, ⟨es, clock, h1, h2⟩, h3⟩ := h
  exact ⟨D, ⟨es, clock, hb.trans h1, h2⟩, h3⟩
theorem MapAt.lt (h : MapAt P k e w b n f) : b < w.heap.size := by
  obtain ⟨D, ⟨es, clock, h1, h2⟩, h3⟩ := h
  exact (Array.getElem?_eq_some_iff.1 h1).1
theorem MapAt.below {w' : World} (h : MapAt P k e w b n f) {B : Nat} (hb : Below B w w') (hB : b < B) : MapAt P k e w' b n f := h.of_block (hb.block b hB)
theorem MapAt.alloc (h : MapAt P k e w b n f) (o : Obj) : MapAt P k e (w.alloc o) b n f := h.below (B := w.heap.size) ((Below.refl _ _).alloc (Nat.le_refl _) o) h.lt
theorem MapAt.mono (h : MapAt P k e w b n f) {n' : Nat} (hn : n ≤ n') : MapAt P k e w b n' f := by
  obtain ⟨D, h1, h2⟩ := h
  exact ⟨D, h1.mono hn, h2⟩
theorem MapAt.congr {g : Int → Int} (h : MapAt P k e w b n f) (hg : ∀ x, f x = g x) : MapAt P k e w b n g := by
  have : f = g := funext hg
  subst this; exact h
theorem MapAt.look (h : MapAt P k e w b n f) (ht : P.underlying t = some (.map k e)) (hk : P.underlying k = some (.int .i64)) (he : P.underlying e = some (.int .i64)) (hz : (zeroValue e).run P w = .ok (.int .i64 0) w) {x : Int} (hx : (Lit.int .i64 x).wf = true) :
    (Instr.lookup t (.map (some b)) (.int .i64 x) false).run P w = .ok (.int .i64 (f x)) w := by
  obtain ⟨D, h1, h2⟩ := h
  obtain ⟨c, hr, hat, -⟩ := h1.lookup_int (int_keyed hk) ht he hz (keyOf_int_mk hk hx)
  rw [h2 x hx] at hat
  injection hat with hat
  injection hat with _ hat
  rw [hr, hat]
theorem MapAt.put (h : MapAt P k e w b n f) (ht : P.underlying t = some (.map k e)) (hk : P.underlying k = some (.int .i64)) (he : P.underlying e = some (.int .i64)) (hn : n < maxLen) {x v : Int} (hx : (Lit.int .i64 x).wf = true) (hv : (Lit.int .i64 v).wf = true) :
    ∃ w', (Instr.mapUpdate t (.map (some b)) (.int .i64 x) (.int .i64 v)).run P w = .ok () w' ∧ MapAt P k e w' b (n + 1) (fun y => if y = x then v else f y) ∧ w.grownBy w' (some b) := by
  obtain ⟨D, h1, h2⟩ := h
  have hkey := keyOf_int_mk hk hx
  obtain ⟨w', hr, ho, hg⟩ := h1.update (int_keyed hk) ht hn hkey (plainElem_int he hv)
  refine ⟨w', hr, ⟨_, ho, fun y hy => ?_⟩, hg⟩
  by_cases hyx : y = x
  · subst hyx
    simp only [if_true]
    exact atKey_put_same h1.isMap ((int_keyed hk).key hkey) _ _
  · simp only [if_neg hyx]
    rw [atKey_put_other (fun e => hyx (by injection e)) _ _]
    exact h2 y hy
end

/-- what stands at a key are these numbers -/
def rowIs (d : DataW Unit) (zs : List Int) : Prop := (d = .nil ∧ zs = []) ∨ d = .slice (ChangeShapes.lits .i64 zs) []
theorem lits_inj {zs zs' : List Int} (h : (ChangeShapes.lits (H := Unit) .i64 zs) = ChangeShapes.lits .i64 zs') : zs = zs' := by
  unfold ChangeShapes.lits at h
  exact (List.map_inj_right (fun a b hab => by injection hab with hab; injection hab)).1 h
theorem rowIs_unique {w : World} {base : Nat} {e : TypeId} {v : Value} {zs zs' : List Int} (h : w.ownsInts base e .i64 v zs) (hr : rowIs (rowDatum .i64 v zs) zs') : zs = zs' := by
  rcases h.datum (H := Unit) with ⟨h1, h2⟩ | h1 <;> rw [h1] at hr <;> rcases hr with ⟨h3, h4⟩ | h3
  · rw [h2, h4]
  · cases h3
  · cases h3
  · injection h3 with h3; exact lits_inj h3
theorem rowIs_datum {w : World} {base : Nat} {e : TypeId} {v : Value} {zs : List Int} (h : w.ownsInts base e .i64 v zs) : rowIs (rowDatum .i64 v zs) zs := h.datum

/-- block b is a map of at most n entries, each a list of at most n numbers, that reads as f -/
def GroupsAt (P : Program) (k e : TypeId) (w : World) (b n : Nat) (f : Int → List Int) : Prop :=
  ∃ D : DataW Unit, w.ownsGroups P k (b + 1) e .i64 b n D ∧ IsMap D ∧ ∀ x, (Lit.int .i64 x).wf = true → rowIs (D.atKey (.int .i64 x) .nil) (f x)
section
variable {P : Program} {k e E t : TypeId} {w : World} {b n : Nat} {f : Int → List Int}
theorem GroupsAt.made (P : Program) (k e : TypeId) (w : World) : GroupsAt P k e (w.alloc (.map #[] 0)) w.heap.size 0 (fun _ => []) :=
  ⟨_, World.ownsGroups_made w P k e .i64, isMap_empty, fun _ _ => Or.inl ⟨rfl, rfl⟩⟩
theorem GroupsAt.keep {w' : World} (h : GroupsAt P k e w b n f) (hb : Below w.heap.size w w') : GroupsAt P k e w' b n f := by
  obtain ⟨D, h1, h2, h3⟩ := h
  refine ⟨D, h1.kept (row := none) ⟨hb.os, hb.tape, hb.output, hb.size, fun k hk _ => hb.block k hk⟩ (by simp) (fun es clock _ x _ => ?_), h2, h3⟩
  cases x.val.ownBlock with
  | none => exact Or.inl rfl
  | some g => exact Or.inr (by simp)
theorem GroupsAt.lt (h : GroupsAt P k e w b n f) : b < w.heap.size := by
  obtain ⟨D, ⟨es, clock, h1, h2⟩, h3⟩ := h
  exact (Array.getElem?_eq_some_iff.1 h1).1
theorem GroupsAt.alloc (h : GroupsAt P k e w b n f) (o : Obj) : GroupsAt P k e (w.alloc o) b n f := h.keep ((Below.refl _ _).alloc (Nat.le_refl _) o)
theorem GroupsAt.drewN (h : GroupsAt P k e w b n f) (q : Nat) : GroupsAt P k e (w.drewN q) b n f := h
theorem GroupsAt.congr {g : Int → List Int} (h : GroupsAt P k e w b n f) (hg : ∀ x, f x = g x) : GroupsAt P k e w b n g := by
  have : f = g := funext hg
  subst this; exact h
theorem GroupsAt.apart {X : Nat} {cs : Array Value} {u : TypeId} {fr : Nat × Nat} (h : GroupsAt P k e w b n f) (hX : w.heap[X]? = some (.cells cs u fr)) : X ≠ b := by
  obtain ⟨D, ⟨es, clock, h1, h2⟩, h3⟩ := h
  rintro rfl
  rw [h1] at hX
  cases hX
/-- a look-up hangs on the map's block alone -/
theorem look_same {H : Type} {R : Value → Option (DataW H × List MemPlace)} {w w' : World} {es : Array MapEntry} {clock : Nat} {key v z : Value} {kl : Lit} (K : Keyed P k) (ht : P.underlying t = some (.map k E)) (hz : ∀ w, (zeroValue E).run P w = .ok z w)
    (hb : w.heap[b]? = some (.map es clock)) (hb' : w'.heap[b]? = w.heap[b]?) (F : WideElems.Fit P k R es clock) (hkey : keyOf P k key = some kl) (hr : (Instr.lookup t (.map (some b)) key false).run P w = .ok v w) :
    (Instr.lookup t (.map (some b)) key false).run P w' = .ok v w' := by
  have F1 : WideElems.Fit P k (fun v => some ((.agg [.held v] : DataW Value), ([] : List MemPlace))) es clock := ⟨F.size, F.stamped, fun x hx => by
    obtain ⟨y, hy⟩ := F.reads x hx
    exact ⟨(y.1, .agg [.held x.val]), by simp [WideElems.rd, rd_key hy]⟩⟩
  rcases fit_look false K ht (hz w) hb F1 hkey with ⟨h1, h2, h3⟩ | ⟨e0, y, h1, h2, h3, h4, h5, -⟩ <;> rcases fit_look false K ht (hz w') (hb'.trans hb) F1 hkey with ⟨g1, g2, g3⟩ | ⟨e1, y1, g1, g2, g3, g4, g5, -⟩
  · rw [h1] at hr
    injection hr with hr
    rw [g1, hr]
  · exact absurd g2 (h2 e1 g1)
  · exact absurd h2 (g2 e0 h1)
  · rw [h3] at hr
    injection hr with hr
    have e : y.1 = y1.1 := (h5 .nil).symm.trans (g5 .nil)
    have e4 : (.agg [.held e0.val] : DataW Value) = y.1 := by injection h4 with h4; rw [← h4]
    have e5 : (.agg [.held e1.val] : DataW Value) = y1.1 := by injection g4 with g4; rw [← g4]
    rw [← e4, ← e5] at e
    have e6 : e0.val = e1.val := by injection e with e; injection e with e _; injection e
    rw [g3]
    simp only [Bool.false_eq_true, if_false] at hr ⊢
    rw [← e6, hr]
/-- a look, and the way back -/
theorem GroupsAt.look (h : GroupsAt P k e w b n f) (ht : P.underlying t = some (.map k E)) (hk : P.underlying k = some (.int .i64)) (hz : ∀ w, (zeroValue E).run P w = .ok (.slice none 0 0) w) (hn : n < maxLen) {x : Int} (hx : (Lit.int .i64 x).wf = true) :
    ∃ v, (∀ w', w'.heap[b]? = w.heap[b]? → (Instr.lookup t (.map (some b)) (.int .i64 x) false).run P w' = .ok v w') ∧ w.ownsInts (b + 1) e .i64 v (f x) ∧ (f x).length ≤ n ∧
      (∀ (w1 : World) (v' : Value) (zs' : List Int), w.grownBy w1 v.ownBlock → w1.ownsInts (b + 1) e .i64 v' zs' → zs'.length ≤ n + 1 → (v'.ownBlock = v.ownBlock ∨ ∃ g, v'.ownBlock = some g ∧ w.heap.size ≤ g) →
        ∃ w2, (Instr.mapUpdate t (.map (some b)) (.int .i64 x) v').run P w1 = .ok () w2 ∧ GroupsAt P k e w2 b (n + 1) (fun y => if y = x then zs' else f y) ∧ w1.grownBy w2 (some b)) := by
  obtain ⟨D, h1, h2, h3⟩ := h
  have hkey := keyOf_int_mk hk hx
  obtain ⟨v, zs, hr, hat, ho, hl, hback⟩ := h1.at (int_keyed hk) ht (hz w) hn hkey
  obtain rfl : zs = f x := rowIs_unique ho (by rw [← hat]; exact h3 x hx)
  refine ⟨v, fun w' hw' => ?_, ho, hl, fun w1 v' zs' hg ho' hl' hloc => ?_⟩
  · obtain ⟨es, clock, hb, F, -⟩ := h1
    exact look_same (int_keyed hk) ht hz hb hw' F hkey hr
  obtain ⟨w2, r1, r2, r3⟩ := hback w1 v' zs' hg ho' hl' hloc
  refine ⟨w2, r1, ⟨_, r2, h2.put _ _, fun y hy => ?_⟩, r3⟩
  by_cases hyx : y = x
  · subst hyx
    simp only [if_true]
    rw [atKey_put_same h2 ((int_keyed hk).key hkey) _ _]
    exact rowIs_datum ho'
  · simp only [if_neg hyx]
    rw [atKey_put_other (fun e => hyx (by injection e)) _ _]
    exact h3 y hy
/-- a block of another element type is no list's row -/
theorem own_apart {w : World} {base : Nat} {e u : TypeId} {v : Value} {zs : List Int} {X : Nat} {cs : Array Value} {fr : Nat × Nat} (h : w.ownsInts base e .i64 v zs) (hX : w.heap[X]? = some (.cells cs u fr)) (hu : u ≠ e) : some X ≠ v.ownBlock := by
  intro he
  rcases h.1.2 with ⟨rfl, -⟩ | ⟨g, cap, cur, rfl, -, hb, -⟩
  · cases he
  · injection he with he
    subst he
    rw [hb] at hX
    injection hX with hX
    injection hX with _ hX _
    exact hu hX.symm
end
end Go.Proofs.Ytjaegddnikkibaa
