/-
  What attempts leave behind, as a list of words and what they have; plain.
-/
import Derived.Test.YtjaegddnikkibaaGreatDoorHeapK
set_option linter.unusedVariables false
set_option linter.unusedSimpArgs false
namespace Go.Proofs.YtjaegddnikkibaaGreatDoor
open Go.RowKit Go.Sort Go.Maps

def allK (l : List Att) (o : List Int) : Int → Option Int := o.foldl (fun h i => doVK h (attN l i).evs) (fun _ => none)
theorem allK_snoc (l : List Att) {o : List Int} {k : Nat} (hk : k < o.length) : allK l (o.take (k + 1)) = doVK (allK l (o.take k)) (attN l o[k]).evs := by
  unfold allK
  rw [List.take_succ_eq_append_getElem hk, List.foldl_append]; rfl
theorem doEvK_doEv (h : Int → Option Int) (e : Ev) (x : Int) : (doEvK h e x).getD 0 = doEv (fun y => (h y).getD 0) e x := by
  unfold doEvK doEv
  split
  · dsimp only; split <;> rfl
  · split
    · dsimp only; split <;> rfl
    · rfl
theorem doVK_doV : ∀ (es : List Ev) (h : Int → Option Int) (x : Int), (doVK h es x).getD 0 = doV (fun y => (h y).getD 0) es x
  | [], _, _ => rfl
  | e :: r, h, x => by
    show (doVK (doEvK h e) r x).getD 0 = doV (doEv (fun y => (h y).getD 0) e) r x
    rw [doVK_doV r]
    congr 1
    funext y
    exact doEvK_doEv h e y
theorem allK_heap (l : List Att) (o : List Int) (x : Int) : (allK l o x).getD 0 = o.foldl (fun h i => doV h (attN l i).evs) (fun _ => 0) x := by
  unfold allK
  suffices h : ∀ (o : List Int) (g : Int → Option Int), (o.foldl (fun h i => doVK h (attN l i).evs) g x).getD 0 = o.foldl (fun h i => doV h (attN l i).evs) (fun y => (g y).getD 0) x from h o _
  intro o
  induction o with
  | nil => intro g; rfl
  | cons i o ih =>
    intro g
    rw [List.foldl_cons, List.foldl_cons, ih, show (fun y => (doVK g (attN l i).evs y).getD 0) = doV (fun y => (g y).getD 0) (attN l i).evs from funext fun y => doVK_doV _ _ y]
/-- words lie in memory -/
def InMem (f : Int → Option Int) : Prop := ∀ x v, f x = some v → 0 ≤ x ∧ x < 262144
theorem inMem_do {f : Int → Option Int} (h : InMem f) {th : Int} {e : Ev} (he : evB th e = true) : InMem (doEvK f e) := fun x v hx => by
  obtain ⟨eth, ekd, a, b⟩ := e
  have h2 := evB_iff.1 he
  unfold doEvK at hx
  split at hx
  · dsimp only at hx
    split at hx
    · rename_i h3; subst h3; omega
    · exact h x v hx
  · split at hx
    · dsimp only at hx
      split at hx
      · rename_i h3 h4; have h3' : ekd = 6 := h3; have h4' : a ≤ x ∧ x < a + b := h4; omega
      · exact h x v hx
    · exact h x v hx
theorem inMem_doV {th : Int} : ∀ (es : List Ev) (f : Int → Option Int), InMem f → (∀ e ∈ es, evB th e = true) → InMem (doVK f es)
  | [], _, h, _ => h
  | e :: r, f, h, he => inMem_doV r _ (inMem_do h (he e (by simp))) (fun e h => he e (by simp [h]))
theorem inMem_all {l : List Att} : ∀ (o : List Int) (g : Int → Option Int), InMem g → (∀ i ∈ o, ∀ e ∈ (attN l i).evs, evB (attN l i).th e = true) → InMem (o.foldl (fun h i => doVK h (attN l i).evs) g)
  | [], _, h, _ => h
  | i :: o, g, h, he => inMem_all o _ (inMem_doV _ _ h (he i (by simp))) (fun i h => he i (by simp [h]))

/-- the words, in their order -/
structure WordsIs (cs : List (Int × Int)) (f : Int → Option Int) : Prop where
  up : cs.Pairwise (fun p q => p.1 < q.1)
  mem : ∀ x v, (x, v) ∈ cs ↔ f x = some v
theorem wordsIs_unique : ∀ {cs cs' : List (Int × Int)} {f : Int → Option Int}, WordsIs cs f → WordsIs cs' f → cs = cs' := by
  intro cs cs' f h h'
  have hm : ∀ p, p ∈ cs ↔ p ∈ cs' := fun ⟨x, v⟩ => (h.mem x v).trans (h'.mem x v).symm
  have key : ∀ (a b : List (Int × Int)), a.Pairwise (fun p q => p.1 < q.1) → b.Pairwise (fun p q => p.1 < q.1) → (∀ p, p ∈ a ↔ p ∈ b) → a = b := by
    intro a
    induction a with
    | nil =>
      intro b _ _ hm
      cases b with
      | nil => rfl
      | cons y b => exact absurd ((hm y).2 (by simp)) (by simp)
    | cons x a ih =>
      intro b ha hb hm
      cases b with
      | nil => exact absurd ((hm x).1 (by simp)) (by simp)
      | cons y b =>
        obtain ⟨ha1, ha2⟩ := List.pairwise_cons.1 ha
        obtain ⟨hb1, hb2⟩ := List.pairwise_cons.1 hb
        have hxy : x = y := by
          rcases List.mem_cons.1 ((hm x).1 (by simp)) with h1 | h1
          · exact h1
          · rcases List.mem_cons.1 ((hm y).2 (by simp)) with h2 | h2
            · exact h2.symm
            · have := hb1 x h1
              have := ha1 y h2
              omega
        subst hxy
        rw [ih b ha2 hb2 fun p => by
          have h3 := hm p
          simp only [List.mem_cons] at h3
          constructor
          · intro hp
            rcases h3.1 (Or.inr hp) with e | hp'
            · subst e; have := ha1 p hp; omega
            · exact hp'
          · intro hp
            rcases h3.2 (Or.inr hp) with e | hp'
            · subst e; have := hb1 p hp; omega
            · exact hp']
  exact key cs cs' h.up h'.up hm
/-- a slice of words -/
def CellsAt (w : World) (A : Option Addr) (cs : List (Int × Int)) : Prop :=
  cs ≠ [] → ∃ g off, A = some ⟨g, off, none⟩ ∧ g < w.heap.size ∧ ∀ k x, cs[k]? = some x → w.cell? ⟨g, off + k * 2, none⟩ = some (.int .i64 x.1) ∧ w.cell? ⟨g, off + k * 2 + 1, none⟩ = some (.int .i64 x.2)
theorem CellsAt.keep {w w' : World} {A : Option Addr} {cs : List (Int × Int)} (h : CellsAt w A cs) (hb : Below w.heap.size w w') : CellsAt w' A cs := fun hne => by
  obtain ⟨g, off, e, hlt, hc⟩ := h hne
  exact ⟨g, off, e, Nat.lt_of_lt_of_le hlt hb.size, fun k x hx => ⟨(hb.cell (p := ⟨g, _, none⟩) hlt).trans (hc k x hx).1, (hb.cell (p := ⟨g, _, none⟩) hlt).trans (hc k x hx).2⟩⟩
/-- collected so far: those whose key is struck from 'left' -/
structure CsOf (cs : List (Int × Int)) (left : Lit → Bool) (f : Int → Option Int) : Prop where
  nd : (cs.map (·.1)).Nodup
  sound : ∀ x v, (x, v) ∈ cs → left (.int .i64 x) = false ∧ f x = some v
  full : ∀ x v, f x = some v → left (.int .i64 x) = false → (x, v) ∈ cs
theorem CsOf.start {D : DataW Unit} {f : Int → Option Int} (hf : ∀ x v, f x = some v → has D (.int .i64 x) = true) : CsOf [] (has D) f :=
  ⟨List.nodup_nil, fun x v h => by simp at h, fun x v h hl => by rw [hf x v h] at hl; cases hl⟩
theorem CsOf.step {cs : List (Int × Int)} {left : Lit → Bool} {f : Int → Option Int} (h : CsOf cs left f) {x c : Int} (hl : left (.int .i64 x) = true) (hx : f x = some c) : CsOf (cs ++ [(x, c)]) (fun z => left z && !z.sameKey (.int .i64 x)) f := by
  have hnew : ∀ v, (x, v) ∉ cs := fun v hv => by have := (h.sound x v hv).1; rw [hl] at this; cases this
  have hsame : (Lit.int .i64 x).sameKey (.int .i64 x) = true := by simp [Lit.sameKey]
  refine ⟨?_, fun y v hy => ?_, fun y v hy hly => ?_⟩
  · rw [List.map_append, List.nodup_append]
    refine ⟨h.nd, by simp, fun a ha b hb => ?_⟩
    simp only [List.map_cons, List.map_nil, List.mem_singleton] at hb
    subst hb
    rintro rfl
    obtain ⟨⟨y, v⟩, hy, rfl⟩ := List.mem_map.1 ha
    exact hnew v hy
  · rcases List.mem_append.1 hy with hy | hy
    · obtain ⟨h1, h2⟩ := h.sound y v hy
      exact ⟨by rw [h1]; rfl, h2⟩
    · simp only [List.mem_singleton, Prod.mk.injEq] at hy
      obtain ⟨rfl, rfl⟩ := hy
      exact ⟨by rw [hsame]; simp, hx⟩
  · by_cases hyx : y = x
    · subst hyx
      rw [hx] at hy
      injection hy with hy
      subst hy
      simp
    · have : (Lit.int .i64 y).sameKey (.int .i64 x) = false := sameKey_ne (fun e => hyx (by injection e))
      rw [this] at hly
      simp at hly
      exact List.mem_append.2 (Or.inl (h.full y v hy hly))
def cellC (x : Int × Int) : List Value := [.int .i64 x.1, .int .i64 x.2]
theorem CellsAt.at {w : World} {b off : Nat} {cs : List (Int × Int)} (h : CellsAt w (some ⟨b, off, none⟩) cs) {k : Nat} {x : Int × Int} (hx : cs[k]? = some x) : w.cell? ⟨b, off + k * 2, none⟩ = some (.int .i64 x.1) ∧ w.cell? ⟨b, off + k * 2 + 1, none⟩ = some (.int .i64 x.2) := by
  obtain ⟨b', off', he, -, hc⟩ := h (by rintro rfl; simp at hx)
  injection he with he
  injection he with he1 he2
  subst he1; subst he2
  exact hc k x hx
/-- the reads at the front of what was given up are those of the words of those ahead -/
theorem cellInfo : (Tryz.prog.info? 91).map (fun i => (i.zero, i.size, i.bytes)) = some (some (.agg #[.int .i64 0, .int .i64 0]), 2, 16) := by kernel_rfl
end Go.Proofs.YtjaegddnikkibaaGreatDoor
