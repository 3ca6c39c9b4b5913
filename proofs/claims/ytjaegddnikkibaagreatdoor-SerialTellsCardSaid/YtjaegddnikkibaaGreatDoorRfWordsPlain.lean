/-
  The reference's Words; plain: what is written, how cells are sorted.
-/
import Derived.Test.YtjaegddnikkibaaGreatDoorRfHeap
import Derived.Test.YtjaegddnikkibaaGreatDoorBookPlain
import Derived.Test.YtjaegddnikkibaaGreatDoorWords
import Derived.Test.YtjaegddnikkibaaGreatDoorTwinPlain
import Derived.BigRegion
set_option linter.unusedVariables false
set_option linter.unusedSimpArgs false
namespace Go.Proofs.YtjaegddnikkibaaGreatDoor
open Go.RowKit Go.Sort Go.Maps

def wrB (e : Ev) : Bool := decide (e.kd ≠ 2) && decide (e.kd ≠ 4)
def wrs (es : List Ev) : List Ev := es.filter wrB
theorem wrs_take {es : List Ev} {k : Nat} (h : k < es.length) : wrs (es.take (k + 1)) = wrs (es.take k) ++ (if wrB es[k] then [es[k]] else []) := by
  unfold wrs
  rw [List.take_succ_eq_append_getElem h, List.filter_append]
  congr 1
  rw [List.filter_cons, List.filter_nil]
theorem wrs_ok : ∀ (es : List Ev) (F : Int → Int), okV F (wrs es) = true
  | [], _ => rfl
  | e :: r, F => by
    have ih := wrs_ok r
    unfold wrs at *
    rw [List.filter_cons]
    split
    · rename_i h
      unfold wrB at h
      simp only [Bool.and_eq_true, decide_eq_true_eq] at h
      rw [okV, if_neg (by omega), ih, Bool.true_and]
    · exact ih F
theorem wrs_do : ∀ (es : List Ev) (F : Int → Option Int), doVK F (wrs es) = doVK F es
  | [], _ => rfl
  | e :: r, F => by
    have ih := wrs_do r
    unfold wrs at *
    rw [List.filter_cons]
    split
    · exact ih _
    · rename_i h
      unfold wrB at h
      simp only [Bool.and_eq_true, decide_eq_true_eq, Classical.not_and_iff_not_or_not, Decidable.not_not] at h
      have : doEvK F e = F := by
        unfold doEvK
        rw [if_neg (by omega), if_neg (by omega)]
      show _ = doVK (doEvK F e) r
      rw [this]; exact ih F
theorem wrs_len (es : List Ev) : (wrs es).length ≤ es.length := List.length_filter_le _ _
theorem wrs_mem {es : List Ev} {e : Ev} (h : e ∈ wrs es) : e ∈ es := (List.mem_filter.1 h).1

/-- the key at a place -/
def keyN (cs : List (Int × Int)) (a : Nat) : Int := (cs.getD a (0, 0)).1
def SortTo (cs : List (Int × Int)) (n : Nat) : Prop := ∀ a b, a < b → b < n → keyN cs a < keyN cs b
structure HoleAt (cs : List (Int × Int)) (i k : Nat) : Prop where
  rest : ∀ a b, a < b → b ≤ i → a ≠ k → b ≠ k → keyN cs a < keyN cs b
  hole : ∀ b, k < b → b ≤ i → keyN cs k < keyN cs b
def swp2 (cs : List (Int × Int)) (k j : Nat) : List (Int × Int) := (cs.set k (cs.getD j (0, 0))).set j (cs.getD k (0, 0))
theorem swp2_len (cs : List (Int × Int)) (k j : Nat) : (swp2 cs k j).length = cs.length := by unfold swp2; rw [List.length_set, List.length_set]
theorem swp2_get {cs : List (Int × Int)} {k j : Nat} (hk : k < cs.length) (hj : j < cs.length) (a : Nat) : (swp2 cs k j).getD a (0, 0) = if a = j then cs.getD k (0, 0) else if a = k then cs.getD j (0, 0) else cs.getD a (0, 0) := by
  unfold swp2
  rw [List.getD_eq_getElem?_getD, List.getElem?_set, List.getElem?_set]
  by_cases h1 : a = j
  · subst h1
    rw [if_pos rfl, if_pos rfl, if_pos (by rw [List.length_set]; exact hj)]; rfl
  · rw [if_neg (fun e => h1 e.symm), if_neg h1]
    by_cases h2 : a = k
    · subst h2
      rw [if_pos rfl, if_pos rfl, if_pos hk]; rfl
    · rw [if_neg (fun e => h2 e.symm), if_neg h2, ← List.getD_eq_getElem?_getD]
theorem SortTo.start {cs : List (Int × Int)} {i : Nat} (h : SortTo cs i) : HoleAt cs i i :=
  ⟨fun a b hab hb _ hbi => h a b hab (by omega), fun b h1 h2 => by omega⟩
theorem HoleAt.swap {cs : List (Int × Int)} {i k : Nat} (h : HoleAt cs i (k + 1)) (hi : i < cs.length) (hk : k + 1 ≤ i) (hlt : keyN cs (k + 1) < keyN cs k) : HoleAt (swp2 cs (k + 1) k) i k := by
  have key : ∀ a, keyN (swp2 cs (k + 1) k) a = if a = k then keyN cs (k + 1) else if a = k + 1 then keyN cs k else keyN cs a := fun a => by
    unfold keyN
    rw [swp2_get (by omega) (by omega)]
    split
    · rfl
    · split <;> rfl
  refine ⟨fun a b hab hb ha hbk => ?_, fun b h1 h2 => ?_⟩
  · rw [key, key, if_neg ha, if_neg hbk]
    by_cases h1 : a = k + 1
    · rw [if_pos h1, if_neg (by omega)]
      exact h.rest k b (by omega) hb (by omega) (by omega)
    · rw [if_neg h1]
      by_cases h2 : b = k + 1
      · rw [if_pos h2]
        exact h.rest a k (by omega) (by omega) h1 (by omega)
      · rw [if_neg h2]
        exact h.rest a b hab hb h1 h2
  · rw [key, key, if_pos rfl, if_neg (by omega)]
    by_cases h3 : b = k + 1
    · rw [if_pos h3]; exact hlt
    · rw [if_neg h3]; exact h.hole b (by omega) h2
theorem HoleAt.done {cs : List (Int × Int)} {i k : Nat} (h : HoleAt cs i k) (hk : k = 0 ∨ keyN cs (k - 1) < keyN cs k) : SortTo cs (i + 1) := fun a b hab hb => by
  by_cases h1 : a = k
  · subst h1; exact h.hole b hab (by omega)
  · by_cases h2 : b = k
    · subst h2
      rcases hk with hk | hk
      · omega
      · by_cases h3 : a = b - 1
        · rw [h3]; exact hk
        · have := h.rest a (b - 1) (by omega) (by omega) h1 (by omega)
          omega
    · exact h.rest a b hab (by omega) h1 h2
theorem swp2_perm {cs : List (Int × Int)} {k j : Nat} (hk : k < cs.length) (hj : j < cs.length) : (swp2 cs k j).Perm cs := by
  unfold swp2
  rw [List.getD_eq_getElem?_getD, List.getD_eq_getElem?_getD, List.getElem?_eq_getElem hk, List.getElem?_eq_getElem hj]
  exact List.set_set_perm hk hj
theorem keyN_at {cs : List (Int × Int)} {a : Nat} (h : a < cs.length) : keyN cs a = cs[a].1 := by
  unfold keyN
  rw [List.getD_eq_getElem?_getD, List.getElem?_eq_getElem h]; rfl
theorem keyN_ne {cs : List (Int × Int)} (hn : (cs.map (·.1)).Nodup) {a b : Nat} (hab : a < b) (hb : b < cs.length) : keyN cs a ≠ keyN cs b := by
  rw [keyN_at (by omega), keyN_at hb]
  have := List.pairwise_iff_getElem.1 hn a b (by simp; omega) (by simpa using hb) hab
  simpa using this
theorem SortTo.words {cs : List (Int × Int)} (h : SortTo cs cs.length) {f : Int → Option Int} (hm : ∀ x v, (x, v) ∈ cs ↔ f x = some v) : WordsIs cs f :=
  ⟨by
    rw [List.pairwise_iff_getElem]
    intro i j hi hj hij
    have := h i j hij hj
    rwa [keyN_at hi, keyN_at hj] at this, fun x v => hm x v⟩
theorem cells_set2 (x : Int × Int) : ∀ (cs : List (Int × Int)) (j : Nat), ((cs.flatMap cellC).set (j * 2) (.int .i64 x.1)).set (j * 2 + 1) (.int .i64 x.2) = (cs.set j x).flatMap cellC
  | [], j => by simp
  | c :: r, 0 => rfl
  | c :: r, j + 1 => by
    have ih := cells_set2 x r j
    show ((Value.int .i64 c.1 :: Value.int .i64 c.2 :: r.flatMap cellC).set ((j + 1) * 2) _).set ((j + 1) * 2 + 1) _ = _
    rw [show (j + 1) * 2 = j * 2 + 1 + 1 by omega, List.set_cons_succ, List.set_cons_succ, List.set_cons_succ, List.set_cons_succ, ih]; rfl
/-- the heap's state under an exchange of two cells -/
theorem HeapR.swap {w : World} {h g cap k j : Nat} {cs : List (Int × Int)} (hh : HeapR w h cs) (hv : w.cell? ⟨h, 0, none⟩ = some (.slice (some ⟨g, 0, none⟩) cs.length cap)) (x y : Int × Int) :
    HeapR ((((w.setCell ⟨g, k * 2, none⟩ (.int .i64 x.1)).setCell ⟨g, k * 2 + 1, none⟩ (.int .i64 x.2)).setCell ⟨g, j * 2, none⟩ (.int .i64 y.1)).setCell ⟨g, j * 2 + 1, none⟩ (.int .i64 y.2)) h ((cs.set k x).set j y) := by
  obtain ⟨v, h1, h2, h3⟩ := hh.ex
  rw [hv] at h1
  injection h1 with h1
  subst h1
  have hgh : g ≠ h := by have := (h3.lt g rfl).1; omega
  have ne : ∀ j', (⟨g, j', none⟩ : Addr) ≠ ⟨h, 0, none⟩ := fun j' e => hgh (by injection e)
  have s1 := (h3.stored (k * 2) (.int .i64 x.1)).1
  have s2 := (s1.stored (k * 2 + 1) (.int .i64 x.2)).1
  rw [cells_set2] at s2
  have s3 := (s2.stored (j * 2) (.int .i64 y.1)).1
  have s4 := (s3.stored (j * 2 + 1) (.int .i64 y.2)).1
  rw [cells_set2] at s4
  refine ⟨_, ?_, ?_, by rw [List.length_set, List.length_set]; exact s4⟩
  · rw [World.cell?_setCell_other _ _ _ _ (ne _), World.cell?_setCell_other _ _ _ _ (ne _), World.cell?_setCell_other _ _ _ _ (ne _), World.cell?_setCell_other _ _ _ _ (ne _)]; exact hv
  · rw [World.frozen?_setCell, World.frozen?_setCell, World.frozen?_setCell, World.frozen?_setCell]; exact h2
/-- an append to a row of another type leaves the heap -/
theorem HeapR.keepBy {w w' : World} {h : Nat} {cs : List (Int × Int)} (hh : HeapR w h cs) {e k n : Nat} {v : Value} {xs : List Value} (ho : w.ownsRow (h + 1) e k v n xs) (he : e ≠ 91) (hg : w.grownBy w' v.ownBlock) : HeapR w' h cs := by
  obtain ⟨u, h1, h2, h3⟩ := hh.ex
  have hl := hh.lt
  have hne : some h ≠ v.ownBlock := fun e2 => by have := (ho.lt h e2.symm).1; omega
  have hb := hg.block h hl hne
  exact ⟨u, (World.cell?_of_block (w := w) hb).trans h1, (World.frozen?_of_block (w := w) hb).trans h2, own_keptBy h3 hg (fun g hg1 hg2 => own_ne ho h3 he g hg2 hg1)⟩
theorem PutF.belowK {h : Nat} {w W : World} (hf : PutF h w W) (hh : h ≤ w.heap.size) : Below h w W :=
  ⟨hf.os, hf.tape, hf.output, hf.size, fun i hi => hf.block i (Nat.lt_of_lt_of_le hi hh) (Nat.ne_of_lt hi) (Or.inl (Nat.le_of_lt hi))⟩
/-- a store into a block of another type leaves the heap -/
theorem HeapR.setOther {w : World} {h X j : Nat} {cs : List (Int × Int)} (hh : HeapR w h cs) {c : Array Value} {t : TypeId} (hX : w.heap[X]? = some (.cells c t (0, 0))) (ht : t ≠ 91) (hXh : X ≠ h) (u : Value) : HeapR (w.setCell ⟨X, j, none⟩ u) h cs := by
  obtain ⟨v, h1, h2, h3⟩ := hh.ex
  refine ⟨v, (World.cell?_setCell_other _ _ _ _ (fun e => hXh (by injection e))).trans h1, by rw [World.frozen?_setCell]; exact h2, own_set_other h3 (fun e => ?_) u⟩
  rcases h3.2 with ⟨rfl, _⟩ | ⟨g, cap, cur, rfl, -, hb, -⟩
  · cases e
  · injection e with e
    have e : g = X := e
    subst e
    rw [hb] at hX
    injection hX with hX
    injection hX with _ hX
    exact ht hX.symm
theorem own_setObj {w : World} {B e k n X j : Nat} {v : Value} {xs : List Value} (h3 : w.ownsRow B e k v n xs) {c : Array Value} {t : TypeId} (hX : w.heap[X]? = some (.cells c t (0, 0))) (ht : t ≠ e) (u : Value) : (w.setCell ⟨X, j, none⟩ u).ownsRow B e k v n xs :=
  own_set_other h3 (fun e2 => by
    rcases h3.2 with ⟨rfl, _⟩ | ⟨g, cap, cur, rfl, -, hb, -⟩
    · cases e2
    · injection e2 with e2
      have e2 : g = X := e2
      subst e2
      rw [hb] at hX
      injection hX with hX
      injection hX with _ hX
      exact ht hX.symm) u
theorem evsAt_putF {w : World} {h n c : Nat} {A : Option Addr} {es : List Ev} (ho : w.ownsRow (h + 1) 101 4 (.slice A n c) n (es.flatMap Ev.cells)) (hn : n = es.length) (W : World) (hf : PutF h w W) : EvsAt W W.heap.size A es := fun hne => by
  rcases ho.2 with ⟨hv, h0⟩ | ⟨g, cap, cur, hv, hb, hg, -⟩
  · exact absurd (List.eq_nil_of_length_eq_zero (by omega)) hne
  · injection hv with hv1 _ hv2
    subst hv1
    have hgl : g < w.heap.size := (Array.getElem?_eq_some_iff.1 hg).1
    refine ⟨g, 0, rfl, Nat.lt_of_lt_of_le hgl hf.size, fun k e he => ?_⟩
    have hat : EvAt w g (k * 4) e := by
      have hlt : k < es.length := (List.getElem?_eq_some_iff.1 he).1
      have key : ∀ j, j < 4 → w.cell? ⟨g, k * 4 + j, none⟩ = e.cells[j]? := fun j hj => by
        rw [ho.cellAt (k * 4 + j) (by omega)]
        exact flat_at Ev.cells 4 (fun _ => rfl) es k j e he hj
      exact ⟨key 0 (by decide), key 1 (by decide), key 2 (by decide), key 3 (by decide)⟩
    rw [Nat.zero_add]
    exact hat.keep fun o' => hf.cell (p := ⟨g, o', none⟩) hgl (by show g ≠ h; omega) (Or.inr (fun c fr e => by
      have e : w.heap[g]? = some (.cells c 91 fr) := e
      rw [hg] at e
      injection e with e
      injection e with _ e
      exact absurd e (by decide)))
theorem SortTo.one (cs : List (Int × Int)) : SortTo cs 1 := fun a b h1 h2 => by omega
end Go.Proofs.YtjaegddnikkibaaGreatDoor
namespace Go.Proofs.YtjaegddnikkibaaGreatDoor
open Go.RowKit Go.Sort Go.Maps

theorem obj_keepBy {w w' : World} {B e k n i : Nat} {v : Value} {xs : List Value} {c : Array Value} {t : TypeId} (ho : w.ownsRow B e k v n xs) (he : e ≠ t) (hg : w.grownBy w' v.ownBlock) (hi : w.heap[i]? = some (.cells c t (0, 0))) : w'.heap[i]? = some (.cells c t (0, 0)) := by
  refine (hg.block i (Array.getElem?_eq_some_iff.1 hi).1 (fun e2 => ?_)).trans hi
  rcases ho.2 with ⟨rfl, _⟩ | ⟨g, cap, cur, rfl, -, hb, -⟩
  · cases e2
  · injection e2 with e2
    have e2 : i = g := e2
    subst e2
    rw [hb] at hi
    injection hi with hi
    injection hi with _ hi
    exact he hi

abbrev SwS (w0 : World) (h g q q' n cap : Nat) (x1 x2 y1 y2 : Int) (W : World) : Prop :=
  Below w0.heap.size w0 W ∧ W.cell? ⟨h, 0, none⟩ = some (.slice (some ⟨g, 0, none⟩) n cap) ∧ W.cell? ⟨g, q * 2, none⟩ = some (.int .i64 x1) ∧ W.cell? ⟨g, q * 2 + 1, none⟩ = some (.int .i64 x2) ∧ W.cell? ⟨g, q' * 2, none⟩ = some (.int .i64 y1) ∧ W.cell? ⟨g, q' * 2 + 1, none⟩ = some (.int .i64 y2) ∧
    W.frozen? ⟨g, q * 2, none⟩ = false ∧ W.frozen? ⟨g, q * 2 + 1, none⟩ = false ∧ W.frozen? ⟨g, q' * 2, none⟩ = false ∧ W.frozen? ⟨g, q' * 2 + 1, none⟩ = false
theorem swS_of {w0 : World} {h g q q' n cap : Nat} {x1 x2 y1 y2 : Int} (hq : q = q' + 1) (hv : w0.cell? ⟨h, 0, none⟩ = some (.slice (some ⟨g, 0, none⟩) n cap)) (a0 : w0.cell? ⟨g, q * 2, none⟩ = some (.int .i64 x1)) (a1 : w0.cell? ⟨g, q * 2 + 1, none⟩ = some (.int .i64 x2)) (b0 : w0.cell? ⟨g, q' * 2, none⟩ = some (.int .i64 y1)) (b1 : w0.cell? ⟨g, q' * 2 + 1, none⟩ = some (.int .i64 y2))
    (fz : ∀ j, w0.frozen? ⟨g, j, none⟩ = false) (W : World) (hW : Below w0.heap.size w0 W) : SwS w0 h g q q' n cap x1 x2 y1 y2 W := by
  have hg := World.block_lt_of_cell? _ _ a0
  have hh := World.block_lt_of_cell? _ _ hv
  have k : ∀ j v, w0.cell? ⟨g, j, none⟩ = some v → W.cell? ⟨g, j, none⟩ = some v := fun j v e => (hW.cell (p := ⟨g, j, none⟩) hg).trans e
  have f : ∀ j, W.frozen? ⟨g, j, none⟩ = false := fun j => (hW.frozen (p := ⟨g, j, none⟩) hg).trans (fz j)
  exact ⟨hW, (hW.cell (p := ⟨h, 0, none⟩) hh).trans hv, k _ _ a0, k _ _ a1, k _ _ b0, k _ _ b1, f _, f _, f _, f _⟩
theorem swS_then {w0 : World} {h g q q' n cap : Nat} {x1 x2 y1 y2 : Int} (hq : q = q' + 1) (W : World) (hS : SwS w0 h g q q' n cap x1 x2 y1 y2 W) :
    ((W.setCell ⟨g, q * 2, none⟩ (.int .i64 y1)).setCell ⟨g, q * 2 + 1, none⟩ (.int .i64 y2)).cell? ⟨g, q' * 2, none⟩ = some (.int .i64 y1) ∧
    (((W.setCell ⟨g, q * 2, none⟩ (.int .i64 y1)).setCell ⟨g, q * 2 + 1, none⟩ (.int .i64 y2)).setCell ⟨g, q' * 2, none⟩ (.int .i64 x1)).cell? ⟨g, q' * 2 + 1, none⟩ = some (.int .i64 y2) := by
  obtain ⟨-, -, -, -, b0, b1, -⟩ := hS
  have ne : ∀ i j, i ≠ j → (⟨g, i, none⟩ : Addr) ≠ ⟨g, j, none⟩ := fun i j hij e => hij (by injection e)
  refine ⟨?_, ?_⟩
  · rw [World.cell?_setCell_other _ _ _ _ (ne _ _ (by omega)), World.cell?_setCell_other _ _ _ _ (ne _ _ (by omega))]; exact b0
  · rw [World.cell?_setCell_other _ _ _ _ (ne _ _ (by omega)), World.cell?_setCell_other _ _ _ _ (ne _ _ (by omega)), World.cell?_setCell_other _ _ _ _ (ne _ _ (by omega))]; exact b1

set_option maxHeartbeats 8000000 in
set_option maxRecDepth 100000 in
theorem rfWords_any (A : Option Addr) (c : Nat) (l : List Att) (hn : l.length ≤ 1048576) (hts0 : totalSize l ≤ 262144) (hO : ∀ x ∈ l, x.Ok) (w : World) (ha : AttsAt w w.heap.size A l) :
    Calls Tryz.prog 12 #[.slice A l.length c] w (WordsOut l w) := by
  have HC := Lib.hid (fun w1 (h : Below w.heap.size w w1) => rfMay_any A c l (by omega) hO w1 (ha.keep h h.size))
  have HSO := Lib.hid (fun w1 (h : Below w.heap.size w w1) => rfSorted_any A c l hn w1 (ha.keep h h.size))
  have HA := Lib.hid (fun W (h : Below w.heap.size w W) => ha.keep h (Nat.le_refl _))
  clear ha hO
  by_cases hck : checkedV l = 0
  · obtain ⟨hts, hatt⟩ := checked_ok hck
    have HEE : Hid (∀ x ∈ l, ∀ e ∈ x.evs, ∃ t, evB t e = true) := Lib.hid (fun x hx e he => ⟨x.th, attB_evs (hatt x hx) e he⟩)
    have HK := Lib.hid hck
    have HTOT : Hid (evSum l (orderV l) ≤ totalSize l) := Lib.hid evSum_order
    have hol := Nat.le_trans (order_len l) hn
    have HR : Hid (∀ i ∈ orderV l, ∃ j : Nat, i = j ∧ j < l.length) := Lib.hid (fun i hi => by
      obtain ⟨j, hj, x, hx, -⟩ := orderV_mem hi
      exact ⟨j, hj, (List.getElem?_eq_some_iff.1 hx).1⟩)
    have HOUT : Hid (∀ w' B cap cs, Below w.heap.size w w' → WordsIs cs (allK l (orderV l)) → CellsAt w' B cs → cs.length ≤ 68157440 → WordsOut l w (.returned (.tuple #[.slice B cs.length cap, .int .i64 0])) w') := Lib.hid (fun w' B cap cs h1 h2 h3 h4 => ⟨h1, .inr ⟨HK.out, B, cap, cs, rfl, h2, h3, h4⟩⟩)
    clear hatt hts hck
    obtain ⟨o, ho⟩ : ∃ o, orderV l = o := ⟨_, rfl⟩
    rw [ho] at HSO HTOT hol HR HOUT
    clear ho
    have HG0 : Hid (lookK [] = allK l (o.take 0)) := Lib.hid rfl
    have HN0 : Hid ((([] : List (Int × Int)).map (·.1)).Nodup) := Lib.hid (by simp)
    obtain ⟨i0, hi0, hz0, hz1, hz2⟩ := info_parts evInfoT
    go_enter Tryz.func12, Tryz.ntmps12
    go_wp2_with fail
    refine (HC.out _ (Below.refl _ _)).mono ?_
    rintro e w0 ⟨rfl, hb1⟩
    rw [HK.out]
    have HB0 := Lib.hid hb1
    clear hb1
    go_wp2_with fail
    refine (HSO.out _ HB0.out).mono ?_
    rintro e w1 ⟨⟨OA, oc, rfl, hI⟩, hb1⟩
    have HB1 := Lib.hid (HB0.out.trans (hb1.mono HB0.out.size))
    have HI := Lib.hid (fun W (h : Below w1.heap.size w1 W) => hI.keep h)
    have HEND := Lib.hid (fun W (h : Below w1.heap.size w1 W) => HB1.out.trans (h.mono HB1.out.size))
    clear hb1 hI HB0 HSO
    obtain ⟨h, hh⟩ : ∃ h, w1.heap.size = h := ⟨_, rfl⟩
    have HHS := Lib.hid hh
    have HHS0 := Lib.hid hh
    obtain ⟨w2, hw2⟩ : ∃ w2, w1.alloc (.cells #[.slice none 0 0] 97 (0, 0)) = w2 := ⟨_, rfl⟩
    have HH1 : Hid (HeapR w2 h []) := Lib.hid ⟨.slice none 0 0, by rw [← hw2, ← hh]; simp, by rw [← hw2, ← hh]; simp, by simp, .inl ⟨rfl, rfl⟩⟩
    have HW1 : Hid (Below w1.heap.size w1 w2) := Lib.hid (by rw [← hw2]; exact (Below.refl _ _).alloc (Nat.le_refl _) _)
    go_wp2_with fail
    clear hw2 hh
    go_loopw [7] (fun i wr => ∃ (k : Nat) (cs : List (Int × Int)), i = .int .i64 k ∧ k ≤ o.length ∧ cs.length ≤ 65 * evSum l (o.take k) ∧ Hid (lookK cs = allK l (o.take k)) ∧ Hid ((cs.map (·.1)).Nodup) ∧ Hid (HeapR wr h cs) ∧ Hid (Below w1.heap.size w1 wr)) (fun i _ => o.length - (intOf i).toNat)
    case atStart => exact ⟨0, [], rfl, Nat.zero_le _, by simp, HG0, HN0, HH1, HW1⟩
    case round =>
      clear HG0 HN0 HH1 HW1
      obtain ⟨k, cs, rfl, hk, hcl, hgc, hnd, hH, hW⟩ := hrel
      by_cases hlt : k < o.length
      · obtain ⟨g, goff, rfl, hgl, hgc0⟩ := HI.out _ hW.out (by rintro rfl; simp at hlt)
        obtain ⟨i, hi, hil⟩ := HR.out _ (List.getElem_mem hlt)
        have e1 := hgc0 k _ (List.getElem?_eq_getElem hlt)
        obtain ⟨b, off, rfl, -, -⟩ := (HA.out _ (HEND.out _ hW.out)).row (by rintro rfl; simp at hil)
        have HEV := Lib.hid (fun W (h : Below w1.heap.size w1 W) => (HA.out _ (HEND.out _ h)).evs _ (List.getElem_mem hil))
        have HEX := Lib.hid (HEE.out _ (List.getElem_mem hil))
        have hxl := evs_le_total l _ (List.getElem_mem hil)
        have hgi : attN l o[k] = l[i] := by rw [hi]; exact attN_get hil
        have hst : Hid (allK l (o.take (k + 1)) = doVK (allK l (o.take k)) l[i].evs) := Lib.hid (by rw [allK_snoc l hlt, hgi])
        have hsu : Hid (evSum l (o.take (k + 1)) = evSum l (o.take k) + l[i].evs.length) := Lib.hid (by
          rw [List.take_succ_eq_append_getElem hlt, evSum_append]
          simp only [evSum, hgi]; omega)
        have HEN : Hid (65 * evSum l (o.take k) + l[i].evs.length * 65 ≤ 68157440) := Lib.hid (by have := HTOT.out; have := evSum_take l o k; omega)
        obtain ⟨c0, c1, c2, c3, c4, c5, c6, c7⟩ := (HA.out _ (HEND.out _ hW.out)).at (List.getElem?_eq_getElem hil)
        have q1 : (k : Int) < (o.length : Int) := by omega
        have q2 : (0 : Int) ≤ (k : Int) := Int.natCast_nonneg _
        have q3 : (i : Int) < (l.length : Int) := by omega
        have q4 : (0 : Int) ≤ (i : Int) := Int.natCast_nonneg _
        rw [hi] at e1
        clear hgi hi hgc0
        generalize l[i] = x at *
        obtain ⟨th, xkd, bg, en, ck, pl, wt, dA, dc, evs⟩ := x
        dsimp only at *
        obtain ⟨X, hX⟩ : ∃ X, wr.heap.size = X := ⟨_, rfl⟩
        obtain ⟨w0, hw0⟩ : ∃ w0, wr.alloc (.cells #[.int .i64 th, .int .u8 xkd, .int .i64 bg, .int .i64 en, .int .i64 ck, .int .i64 pl, .bool wt, .slice dA evs.length dc] 74 (0, 0)) = w0 := ⟨_, rfl⟩
        have hb0 : Below wr.heap.size wr w0 := by rw [← hw0]; exact (Below.refl _ _).alloc (Nat.le_refl _) _
        have hX0 : Hid (w0.heap[X]? = some (.cells #[.int .i64 th, .int .u8 xkd, .int .i64 bg, .int .i64 en, .int .i64 ck, .int .i64 pl, .bool wt, .slice dA evs.length dc] 74 (0, 0))) := Lib.hid (by rw [← hw0, ← hX]; exact heap_alloc_new wr _)
        have hW0 := Lib.hid (hW.out.trans (hb0.mono hW.out.size))
        have hH0 := Lib.hid (hH.out.below hb0)
        have hO0 : Hid (w0.ownsRow (h + 1) 101 4 (.slice none 0 0) (wrs (evs.take 0)).length ((wrs (evs.take 0)).flatMap Ev.cells)) := Lib.hid (World.ownsRow_nil _ _ _ _)
        have hXh : h < X := by have := hH.out.lt; omega
        have hel : evs.length ≤ 1048576 := by have := HEN.out; omega
        clear hb0 hW hH hxl
        go_wp2_with fail
        clear hw0 hX c0 c1 c2 c3 c4 c5 c6 c7 e1
        obtain ⟨wo, rfl⟩ : ∃ wo : World, wo = wr := ⟨_, rfl⟩
        go_loopw [9, 10] (fun v i2 wr => ∃ q : Nat, i2 = .int .i64 q ∧ q ≤ evs.length ∧ Hid (wr.ownsRow (h + 1) 101 4 v (wrs (evs.take q)).length ((wrs (evs.take q)).flatMap Ev.cells)) ∧ Hid (HeapR wr h cs) ∧
          Hid (wr.heap[X]? = some (.cells #[.int .i64 th, .int .u8 xkd, .int .i64 bg, .int .i64 en, .int .i64 ck, .int .i64 pl, .bool wt, .slice dA evs.length dc] 74 (0, 0))) ∧ Hid (Below w1.heap.size w1 wr)) (fun _ i2 _ => evs.length - (intOf i2).toNat)
        case atStart => exact ⟨0, rfl, Nat.zero_le _, hO0, hH0, hX0, hW0⟩
        case round =>
          clear hO0 hH0 hX0 hW0
          obtain ⟨q, rfl, hq, hO, hH, hX, hW⟩ := hrel
          have x7 : wr.cell? ⟨X, 7, none⟩ = some (.slice dA evs.length dc) := cell_of_row wr X 7 _ 74 (0, 0) hX.out
          have hwl : (wrs (evs.take q)).length ≤ 1048576 := by
            have h1 := wrs_len (evs.take q)
            have h2 := HEN.out
            have h3 : (evs.take q).length ≤ evs.length := by rw [List.length_take]; omega
            omega
          by_cases hql : q < evs.length
          · obtain ⟨b2, off2, rfl, hbl, hc⟩ := HEV.out _ hW.out (by rintro rfl; simp at hql)
            obtain ⟨e0, e1, e2, e3⟩ := hc q _ (List.getElem?_eq_getElem hql)
            obtain ⟨t, ht⟩ := HEX.out _ (List.getElem_mem hql)
            have hwt := Lib.hid (wrs_take hql)
            have s1 : (q : Int) < (evs.length : Int) := by omega
            have s2 : (0 : Int) ≤ (q : Int) := Int.natCast_nonneg _
            clear hc
            generalize evs[q] = ev at *
            obtain ⟨eth, ekd, ea, eb⟩ := ev
            dsimp only at *
            obtain ⟨-, hev2⟩ := evB_iff.1 ht
            clear ht
            have hkd : ekd = 2 ∨ ekd = 4 ∨ ekd = 3 ∨ ekd = 5 ∨ ekd = 6 := by omega
            clear hev2
            rcases hkd with rfl | rfl | rfl | rfl | rfl
            · skip
              have hws2 : Hid (wrs (evs.take (q + 1)) = wrs (evs.take q)) := Lib.hid (by rw [hwt.out, if_neg (by simp [wrB]), List.append_nil])
              clear hwt
              go_wp2_with fail
              go_roundw
              case rel => exact ⟨q + 1, by go_num, by omega, Lib.hid (by rw [hws2.out]; exact hO.out), hH, hX, hW⟩
              case measure => simp [intOf]; omega
            · skip
              have hws2 : Hid (wrs (evs.take (q + 1)) = wrs (evs.take q)) := Lib.hid (by rw [hwt.out, if_neg (by simp [wrB]), List.append_nil])
              clear hwt
              go_wp2_with fail
              go_roundw
              case rel => exact ⟨q + 1, by go_num, by omega, Lib.hid (by rw [hws2.out]; exact hO.out), hH, hX, hW⟩
              case measure => simp [intOf]; omega
            · skip
              have hws2 : Hid (wrs (evs.take (q + 1)) = wrs (evs.take q) ++ [⟨eth, 3, ea, eb⟩]) := Lib.hid (by rw [hwt.out, if_pos (by simp [wrB])])
              clear hwt
              go_wp2_with (at_builtin; refine wpList_append_own _ rfl _ _ 72 rfl (h + 1) 101 i0 _ 4 32 Tryz.underlying72 hi0 hz0 hz1 hz2 rfl (by decide) _ _ _ rfl (hO.out.alloc _) ⟨wr.heap.size, 0, none⟩ 1 1 [.int .i64 eth, .int .u8 3, .int .i64 ea, .int .i64 eb] rfl rfl ?c1 ?c2 ?c3 ?c4 ?c5 ?_)
              case c1 => exact World.news_of_block (cs := #[.int .i64 eth, .int .u8 3, .int .i64 ea, .int .i64 eb]) (t := 101) (fr := (0, 0)) (heap_alloc_new wr _)
              case c2 => simp [Value.oneCell']
              case c3 => unfold maxLen; omega
              case c4 => omega
              case c5 => have := hH.out.lt; simp; omega
              intro v' w3 hown' hgrow hnil'
              have hba := (Below.refl wr.heap.size wr).alloc (Nat.le_refl _) (.cells #[.int .i64 eth, .int .u8 3, .int .i64 ea, .int .i64 eb] 101 (0, 0))
              have hoa := own_belowI hO.out hba
              have hH3 := Lib.hid ((hH.out.below hba).keepBy hoa (by decide) hgrow)
              have hO3 : Hid (w3.ownsRow (h + 1) 101 4 v' (wrs (evs.take (q + 1))).length ((wrs (evs.take (q + 1))).flatMap Ev.cells)) := Lib.hid (by
                rw [hws2.out, List.length_append, List.flatMap_append]; exact hown')
              have hX3 := Lib.hid (obj_keepBy hoa (by decide) hgrow ((hba.block X (Array.getElem?_eq_some_iff.1 hX.out).1).trans hX.out))
              have hW3 : Hid (Below w1.heap.size w1 w3) := Lib.hid ((hW.out.trans (hba.mono hW.out.size)).grown hgrow (by have := hW.out.size; simp; omega) (fun kk hk => by have := (hoa.lt kk hk).1; have := HHS.out; omega))
              clear hown' hgrow hnil' hba hoa hO hH hX hW
              go_wp2_with fail
              go_roundw
              case rel => exact ⟨q + 1, by go_num, by omega, hO3, hH3, hX3, hW3⟩
              case measure => simp [intOf]; omega
            · skip
              have hws2 : Hid (wrs (evs.take (q + 1)) = wrs (evs.take q) ++ [⟨eth, 5, ea, eb⟩]) := Lib.hid (by rw [hwt.out, if_pos (by simp [wrB])])
              clear hwt
              go_wp2_with (at_builtin; refine wpList_append_own _ rfl _ _ 72 rfl (h + 1) 101 i0 _ 4 32 Tryz.underlying72 hi0 hz0 hz1 hz2 rfl (by decide) _ _ _ rfl (hO.out.alloc _) ⟨wr.heap.size, 0, none⟩ 1 1 [.int .i64 eth, .int .u8 5, .int .i64 ea, .int .i64 eb] rfl rfl ?c1 ?c2 ?c3 ?c4 ?c5 ?_)
              case c1 => exact World.news_of_block (cs := #[.int .i64 eth, .int .u8 5, .int .i64 ea, .int .i64 eb]) (t := 101) (fr := (0, 0)) (heap_alloc_new wr _)
              case c2 => simp [Value.oneCell']
              case c3 => unfold maxLen; omega
              case c4 => omega
              case c5 => have := hH.out.lt; simp; omega
              intro v' w3 hown' hgrow hnil'
              have hba := (Below.refl wr.heap.size wr).alloc (Nat.le_refl _) (.cells #[.int .i64 eth, .int .u8 5, .int .i64 ea, .int .i64 eb] 101 (0, 0))
              have hoa := own_belowI hO.out hba
              have hH3 := Lib.hid ((hH.out.below hba).keepBy hoa (by decide) hgrow)
              have hO3 : Hid (w3.ownsRow (h + 1) 101 4 v' (wrs (evs.take (q + 1))).length ((wrs (evs.take (q + 1))).flatMap Ev.cells)) := Lib.hid (by
                rw [hws2.out, List.length_append, List.flatMap_append]; exact hown')
              have hX3 := Lib.hid (obj_keepBy hoa (by decide) hgrow ((hba.block X (Array.getElem?_eq_some_iff.1 hX.out).1).trans hX.out))
              have hW3 : Hid (Below w1.heap.size w1 w3) := Lib.hid ((hW.out.trans (hba.mono hW.out.size)).grown hgrow (by have := hW.out.size; simp; omega) (fun kk hk => by have := (hoa.lt kk hk).1; have := HHS.out; omega))
              clear hown' hgrow hnil' hba hoa hO hH hX hW
              go_wp2_with fail
              go_roundw
              case rel => exact ⟨q + 1, by go_num, by omega, hO3, hH3, hX3, hW3⟩
              case measure => simp [intOf]; omega
            · skip
              have hws2 : Hid (wrs (evs.take (q + 1)) = wrs (evs.take q) ++ [⟨eth, 6, ea, eb⟩]) := Lib.hid (by rw [hwt.out, if_pos (by simp [wrB])])
              clear hwt
              go_wp2_with (at_builtin; refine wpList_append_own _ rfl _ _ 72 rfl (h + 1) 101 i0 _ 4 32 Tryz.underlying72 hi0 hz0 hz1 hz2 rfl (by decide) _ _ _ rfl (hO.out.alloc _) ⟨wr.heap.size, 0, none⟩ 1 1 [.int .i64 eth, .int .u8 6, .int .i64 ea, .int .i64 eb] rfl rfl ?c1 ?c2 ?c3 ?c4 ?c5 ?_)
              case c1 => exact World.news_of_block (cs := #[.int .i64 eth, .int .u8 6, .int .i64 ea, .int .i64 eb]) (t := 101) (fr := (0, 0)) (heap_alloc_new wr _)
              case c2 => simp [Value.oneCell']
              case c3 => unfold maxLen; omega
              case c4 => omega
              case c5 => have := hH.out.lt; simp; omega
              intro v' w3 hown' hgrow hnil'
              have hba := (Below.refl wr.heap.size wr).alloc (Nat.le_refl _) (.cells #[.int .i64 eth, .int .u8 6, .int .i64 ea, .int .i64 eb] 101 (0, 0))
              have hoa := own_belowI hO.out hba
              have hH3 := Lib.hid ((hH.out.below hba).keepBy hoa (by decide) hgrow)
              have hO3 : Hid (w3.ownsRow (h + 1) 101 4 v' (wrs (evs.take (q + 1))).length ((wrs (evs.take (q + 1))).flatMap Ev.cells)) := Lib.hid (by
                rw [hws2.out, List.length_append, List.flatMap_append]; exact hown')
              have hX3 := Lib.hid (obj_keepBy hoa (by decide) hgrow ((hba.block X (Array.getElem?_eq_some_iff.1 hX.out).1).trans hX.out))
              have hW3 : Hid (Below w1.heap.size w1 w3) := Lib.hid ((hW.out.trans (hba.mono hW.out.size)).grown hgrow (by have := hW.out.size; simp; omega) (fun kk hk => by have := (hoa.lt kk hk).1; have := HHS.out; omega))
              clear hown' hgrow hnil' hba hoa hO hH hX hW
              go_wp2_with fail
              go_roundw
              case rel => exact ⟨q + 1, by go_num, by omega, hO3, hH3, hX3, hW3⟩
              case measure => simp [intOf]; omega
          · have hqe : evs.take q = evs := List.take_of_length_le (by omega)
            rw [hqe] at hO hwl
            obtain ⟨A9, c9, hv9⟩ : ∃ A9 c9, u9 = .slice A9 (wrs evs).length c9 := by
              rcases hO.out.2 with ⟨hv, h0⟩ | ⟨g9, cp, cur, hv, -⟩
              · exact ⟨none, 0, by rw [hv, h0]⟩
              · exact ⟨_, cp, hv⟩
            subst hv9
            have hN := Lib.hid (fun (z : Nat) (hz : z < 8) => cell_of_row wr X z _ 74 (0, 0) hX.out)
            have x0 : wr.cell? ⟨X, 0, none⟩ = some (.int .i64 th) := hN.out 0 (by decide)
            have x1 : wr.cell? ⟨X, 1, none⟩ = some (.int .u8 xkd) := hN.out 1 (by decide)
            have x2 : wr.cell? ⟨X, 2, none⟩ = some (.int .i64 bg) := hN.out 2 (by decide)
            have x3 : wr.cell? ⟨X, 3, none⟩ = some (.int .i64 en) := hN.out 3 (by decide)
            have x4 : wr.cell? ⟨X, 4, none⟩ = some (.int .i64 ck) := hN.out 4 (by decide)
            have x5 : wr.cell? ⟨X, 5, none⟩ = some (.int .i64 pl) := hN.out 5 (by decide)
            have x6 : wr.cell? ⟨X, 6, none⟩ = some (.bool wt) := hN.out 6 (by decide)
            have f7 : wr.frozen? ⟨X, 7, none⟩ = false := frozen_of_row wr X 7 _ 74 hX.out
            have hHS := (hH.out.setOther (j := 7) hX.out (by decide) (by omega) (.slice A9 (wrs evs).length c9))
            have hOS := own_setObj (j := 7) hO.out hX.out (by decide) (.slice A9 (wrs evs).length c9)
            have hWS : Below w1.heap.size w1 (wr.setCell ⟨X, 7, none⟩ (.slice A9 (wrs evs).length c9)) := hW.out.setCell (p := ⟨X, 7, none⟩) (by have := HHS.out; show _ ≤ X; omega) _
            have hwl2 := wrs_len evs
            have hDN := Lib.hid (rfDoneK_any h cs th xkd bg en ck pl wt A9 c9 (wrs evs) (65 * evSum l (o.take k)) hcl (by have := HEN.out; omega) (fun e he => HEX.out e (wrs_mem he)) _ hHS (evsAt_putF hOS rfl))
            rw [wrs_ok, wrs_do, hgc.out, ← hst.out] at hDN
            have hPE : Hid (∀ W, PutF h (wr.setCell ⟨X, 7, none⟩ (.slice A9 (wrs evs).length c9)) W → Below w1.heap.size w1 W) := Lib.hid (fun W hf => hWS.trans (by rw [HHS.out]; exact hf.belowK (Nat.le_of_lt hHS.lt)))
            clear hHS hOS hWS hN hO hH hX hW hqe
            go_wp2_with fail
            clear x0 x1 x2 x3 x4 x5 x6 x7 f7
            refine hDN.out.mono ?_
            rintro e w5 ⟨rfl, hcs, hP5⟩
            obtain ⟨cs2, hl5, hH5, hg5, hn5⟩ := hcs trivial
            have hE := Lib.hid (hPE.out _ hP5)
            have hH5 := Lib.hid hH5
            have hg6 := Lib.hid hg5
            have hn6 := Lib.hid (hn5 hnd.out)
            have hl6 : cs2.length ≤ 65 * evSum l (o.take (k + 1)) := by have := hsu.out; omega
            clear hDN hP5 hcs hPE hg5 hn5
            go_wp2_with fail
            go_roundw
            case rel => exact ⟨k + 1, cs2, by go_num, by omega, hl6, hg6, hn6, hH5, hE⟩
            case measure => simp [intOf]; omega
      · have hkl : o.take k = o := List.take_of_length_le (by omega)
        rw [hkl] at hgc hcl
        have HM : Hid (∀ x v, (x, v) ∈ cs ↔ allK l o x = some v) := Lib.hid (fun x v => by rw [← hgc.out]; exact look_mem hnd.out)
        have hcl2 : cs.length ≤ 68157440 := by have := HTOT.out; omega
        have HP0 : Hid (cs.Perm cs) := Lib.hid (List.Perm.refl _)
        have HT0 := Lib.hid (SortTo.one cs)
        obtain ⟨n, hn9⟩ : ∃ n, cs.length = n := ⟨_, rfl⟩
        have HN9 := Lib.hid hn9
        rw [hn9] at hcl2
        clear hkl hgc hcl hn9
        go_wp2_with fail
        obtain ⟨wo, rfl⟩ : ∃ wo : World, wo = wr := ⟨_, rfl⟩
        go_loopw [11] (fun i2 wr => ∃ (m : Nat) (ds : List (Int × Int)), i2 = .int .i64 m ∧ 1 ≤ m ∧ (m ≤ n ∨ m = 1) ∧ Hid (ds.Perm cs) ∧ Hid (SortTo ds m) ∧ Hid (HeapR wr h ds) ∧ Hid (Below w1.heap.size w1 wr)) (fun i2 _ => n - (intOf i2).toNat)
        case atStart => exact ⟨1, cs, rfl, Nat.le_refl _, Or.inr rfl, HP0, HT0, hH, hW⟩
        case round =>
          clear HP0 HT0 hH hW
          obtain ⟨m, ds, rfl, hm1, hm2, hP, hT, hH, hW⟩ := hrel
          have hdl : ds.length = n := by rw [hP.out.length_eq]; exact HN9.out
          obtain ⟨v0, hv0, hz0', hown⟩ := hH.out.ex
          obtain ⟨A0, c00, rfl, hca⟩ := cellsAt_own hown
          rw [hdl] at hv0
          by_cases hml : m < n
          · obtain ⟨g, go, hA0, -, -⟩ := hca (by rintro rfl; simp at hdl; omega)
            subst hA0
            have hHO := Lib.hid hT.out.start
            have s1 : (m : Int) < (n : Int) := by omega
            have s2 : (0 : Int) ≤ (m : Int) := Int.natCast_nonneg _
            clear hca hown hz0' hT hdl
            go_wp2_with fail
            clear hv0
            obtain ⟨wo, rfl⟩ : ∃ wo : World, wo = wr := ⟨_, rfl⟩
            go_loopw [12] (fun i3 wr => ∃ (q : Nat) (ds : List (Int × Int)), i3 = .int .i64 q ∧ q ≤ m ∧ Hid (ds.Perm cs) ∧ Hid (HoleAt ds m q) ∧ Hid (HeapR wr h ds) ∧ Hid (Below w1.heap.size w1 wr)) (fun i3 _ => (intOf i3).toNat)
            case atStart => exact ⟨m, ds, rfl, Nat.le_refl _, hP, hHO, hH, hW⟩
            case round =>
              clear hP hHO hH hW
              obtain ⟨q, ds, rfl, hqm, hP, hHO, hH, hW⟩ := hrel
              have hdl : ds.length = n := by rw [hP.out.length_eq]; exact HN9.out
              have HND : Hid ((ds.map (·.1)).Nodup) := Lib.hid ((hP.out.map (·.1)).nodup_iff.2 hnd.out)
              by_cases hq0 : q = 0
              · have t4 : decide ((0 : Int) < (q : Int)) = false := by simp; omega
                have t3 : decide (0 < q) = false := by simp; omega
                have hT2 := Lib.hid (hHO.out.done (Or.inl hq0))
                have hH2 := Lib.hid (fun z => hH.out.below (below_drewN (Below.refl _ _) z))
                have hW2 := Lib.hid (fun z => below_drewN hW.out z)
                clear hHO hH hW HND hdl
                go_wp2_with fail
                go_quiet (fail)
                go_wp2_with fail
                go_roundw
                case rel => exact ⟨m + 1, ds, by go_num, by omega, by omega, hP, hT2, Lib.hid (hH2.out _), Lib.hid (hW2.out _)⟩
                case measure => simp [intOf]; omega
              · obtain ⟨q', hq'⟩ : ∃ q', q = q' + 1 := ⟨q - 1, by omega⟩
                have t4 : decide ((0 : Int) < (q : Int)) = true := by simp; omega
                have t3 : decide (0 < q) = true := by simp; omega
                have hwr2 : IntKind.i64.wrap ((q : Int) - 1) = (q' : Int) := by rw [IntKind.wrap_i64]; omega
                obtain ⟨v0, hv0, hz0', hown⟩ := hH.out.ex
                obtain ⟨A0, c0, rfl, hca⟩ := cellsAt_own hown
                rw [hdl] at hv0
                obtain ⟨g, go, hA0, -, -⟩ := hca (by rintro rfl; simp at hdl; omega)
                subst hA0
                obtain rfl : go = 0 := by
                  rcases hown.2 with ⟨hx, -⟩ | ⟨g2, cp, cur, hx, -⟩
                  · cases hx
                  · injection hx with hx; injection hx with hx; injection hx with hx1 hx2
                have hql : q < ds.length := by omega
                have hql' : q' < ds.length := by omega
                obtain ⟨a0, a1⟩ := hca.at (List.getElem?_eq_getElem hql)
                obtain ⟨b0, b1⟩ := hca.at (List.getElem?_eq_getElem hql')
                rw [Nat.zero_add] at a0 a1 b0 b1
                have fz : ∀ j, wr.frozen? ⟨g, j, none⟩ = false := fun j => hown.frozenAt j
                have r1 : (0 : Int) ≤ (q' : Int) := Int.natCast_nonneg _
                have r2 : (q' : Int) < (n : Int) := by omega
                have r3 : (q : Int) < (n : Int) := by omega
                have r4 : (0 : Int) ≤ (q : Int) := Int.natCast_nonneg _
                have hgq : ds.getD q (0, 0) = ds[q] := by rw [List.getD_eq_getElem?_getD, List.getElem?_eq_getElem hql]; rfl
                have hgq' : ds.getD q' (0, 0) = ds[q'] := by rw [List.getD_eq_getElem?_getD, List.getElem?_eq_getElem hql']; rfl
                have HK1 : Hid (keyN ds q = ds[q].1 ∧ keyN ds q' = ds[q'].1) := Lib.hid ⟨keyN_at hql, keyN_at hql'⟩
                have HSW : Hid (swp2 ds q q' = (ds.set q ds[q']).set q' ds[q]) := Lib.hid (by unfold swp2; rw [hgq, hgq'])
                have HPS : Hid ((swp2 ds q q').Perm cs) := Lib.hid ((swp2_perm hql hql').trans hP.out)
                have HNE := Lib.hid (keyN_ne HND.out (a := q') (b := q) (by omega) hql)
                have hdn : Hid (ds.length = n) := Lib.hid hdl
                clear hca hgq hgq' HND hdl
                generalize ds[q] = x at *
                generalize ds[q'] = y at *
                obtain ⟨x1, x2⟩ := x
                obtain ⟨y1, y2⟩ := y
                dsimp only at a0 a1 b0 b1 HK1
                by_cases hxy : x1 < y1
                · have t5 : decide (x1 < y1) = true := by simpa using hxy
                  have HS := Lib.hid (swS_of (n := n) hq' hv0 a0 a1 b0 b1 fz)
                  have HCH := Lib.hid (fun W hS => swS_then (w0 := wr) (h := h) (g := g) (n := n) (cap := c0) (x1 := x1) (x2 := x2) (y1 := y1) (y2 := y2) hq' W hS)
                  have HHO : Hid (HoleAt (swp2 ds q q') m q') := Lib.hid (by
                    have h2 := hHO.out
                    subst hq'
                    exact h2.swap (by have := hdn.out; omega) (by omega) (by have h1 := HK1.out; rw [h1.1, h1.2]; exact hxy))
                  have HHS : Hid (∀ W, Below wr.heap.size wr W → W.cell? ⟨h, 0, none⟩ = some (.slice (some ⟨g, 0, none⟩) n c0) → HeapR ((((W.setCell ⟨g, q * 2, none⟩ (.int .i64 y1)).setCell ⟨g, q * 2 + 1, none⟩ (.int .i64 y2)).setCell ⟨g, q' * 2, none⟩ (.int .i64 x1)).setCell ⟨g, q' * 2 + 1, none⟩ (.int .i64 x2)) h (swp2 ds q q')) := Lib.hid (fun W hb hv => by
                    rw [HSW.out]
                    exact (hH.out.below hb).swap (by rw [hv, hdn.out]) (y1, y2) (x1, x2))
                  have HBG : Hid (∀ W, Below wr.heap.size wr W → Below w1.heap.size w1 ((((W.setCell ⟨g, q * 2, none⟩ (.int .i64 y1)).setCell ⟨g, q * 2 + 1, none⟩ (.int .i64 y2)).setCell ⟨g, q' * 2, none⟩ (.int .i64 x1)).setCell ⟨g, q' * 2 + 1, none⟩ (.int .i64 x2))) := Lib.hid (fun W hb => by
                    have hgb : w1.heap.size ≤ g := by have := (hown.lt g rfl).1; have := HHS0.out; omega
                    exact ((((hW.out.trans (hb.mono hW.out.size)).setCell (p := ⟨g, q * 2, none⟩) hgb _).setCell (p := ⟨g, q * 2 + 1, none⟩) hgb _).setCell (p := ⟨g, q' * 2, none⟩) hgb _).setCell (p := ⟨g, q' * 2 + 1, none⟩) hgb _)
                  have hHq := Lib.hid (fun z => below_drewN (Below.refl wr.heap.size wr) z)
                  have hqlt : q' < q := by omega
                  clear hHO hH hW HSW HNE HK1 hown hxy hq' hP
                  go_wp2_with fail
                  go_quiet (fail)
                  clear a0 a1 b0 b1 fz hv0
                  have hbq := Lib.hid (hHq.out nq)
                  clear hHq
                  generalize wr.drewN nq = wq at *
                  obtain ⟨-, hv0, a0, a1, b0, b1, f0, f1, f2, f3⟩ := HS.out wq hbq.out
                  have hv9 := Lib.hid hv0
                  clear HS HCH
                  go_wp2_with fail
                  go_region
                  clear hv0 a0 a1 b0 b1 f0 f1 f2 f3
                  have hH2 := Lib.hid (HHS.out wq.drew hbq.out.drew hv9.out)
                  have hW2 := Lib.hid (HBG.out wq.drew hbq.out.drew)
                  clear HHS HBG hbq hv9
                  go_wp2_with fail
                  go_roundw
                  case rel => exact ⟨q', swp2 ds q q', by first | rfl | go_num, by omega, HPS, HHO, hH2, hW2⟩
                  case measure => simp [intOf]; omega
                · have t5 : decide (x1 < y1) = false := by simpa using hxy
                  have hT2 := Lib.hid (hHO.out.done (Or.inr (by have h1 := HK1.out; have h2 := HNE.out; rw [show q - 1 = q' by omega, h1.1, h1.2]; rw [h1.1, h1.2] at h2; omega)))
                  have hH2 := Lib.hid (fun z => hH.out.below (below_drewN (Below.refl _ _) z))
                  have hW2 := Lib.hid (fun z => below_drewN hW.out z)
                  clear hHO hH hW HSW HPS HNE HK1 hown hxy hq'
                  go_wp2_with fail
                  go_quiet (fail)
                  go_wp2_with fail
                  go_roundw
                  case rel => exact ⟨m + 1, ds, by go_num, by omega, by omega, hP, hT2, Lib.hid (hH2.out _), Lib.hid (hW2.out _)⟩
                  case measure => simp [intOf]; omega
          · have hT2 : Hid (SortTo ds ds.length) := Lib.hid (fun a b h1 h2 => hT.out a b h1 (by omega))
            have hWI : Hid (WordsIs ds (allK l o)) := Lib.hid (hT2.out.words (fun x v => (hP.out.mem_iff).trans (HM.out x v)))
            have hF := Lib.hid (HOUT.out wr A0 c00 ds (HEND.out _ hW.out) hWI.out hca (by omega))
            rw [hdl] at hF
            clear hca hown hz0' hT hT2 hWI hH hW
            go_wp2_with fail
            refine bodyPost_ret (v := .tuple #[.slice A0 n c00, .int .i64 0]) (by simp [results, Tryz.results12, go_sem]) rfl ?_
            exact hF.out
  · have HE : Hid (∀ w', Below w.heap.size w w' → WordsOut l w (.returned (.tuple #[.slice none 0 0, .int .i64 (checkedV l)])) w') := Lib.hid (fun w' h => ⟨h, .inl ⟨hck, rfl⟩⟩)
    have HN : Hid (∀ z, z = checkedV l → (z != 0) = true ∧ decide (z = 0) = false) := Lib.hid (fun z hz => by subst hz; simp [hck])
    obtain ⟨z, hz⟩ : ∃ z, checkedV l = z := ⟨_, rfl⟩
    rw [hz] at HE HC HN
    clear hck hz
    go_enter Tryz.func12, Tryz.ntmps12
    go_wp2_with fail
    refine (HC.out _ (Below.refl _ _)).mono ?_
    rintro e w0 ⟨rfl, hb1⟩
    have HB0 := Lib.hid hb1
    obtain ⟨t1, t2⟩ := HN.out _ rfl
    clear hb1 HN
    go_wp2_with fail
    refine bodyPost_ret (v := .tuple #[.slice none 0 0, .int .i64 z]) (by simp [results, Tryz.results12, go_sem]) rfl ?_
    exact HE.out _ HB0.out
end Go.Proofs.YtjaegddnikkibaaGreatDoor
