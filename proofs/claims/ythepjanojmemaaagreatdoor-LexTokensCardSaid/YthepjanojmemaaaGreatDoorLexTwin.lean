/-
  Twins of token lists, lists that are alike, lists further down; how many line feeds a text has.
-/
import Derived.Test.YthepjanojmemaaaGreatDoorLexAlive
import Derived.Test.YthepjanojmemaaaGreatDoorCopyRow
import Derived.Deep.OwnRows
set_option linter.unusedVariables false
set_option linter.unusedSimpArgs false
namespace Go.Proofs.YthepjanojmemaaaGreatDoor
open Go.RowKit

set_option maxHeartbeats 400000 in
theorem markTok_any (n : Int) (h1 : 0 ≤ n) (h2 : n ≤ 1000000) (w : World) :
    Calls Tryz.prog 116 #[.int .i64 n] w fun e w' => e = .returned (.agg #[.int .u8 0, .string ⟨#[]⟩, .int .i64 0, .int .i64 (-1000 - n)]) ∧ Below w.heap.size w w' := by
  go_enter Tryz.func116, Tryz.ntmps116
  go_wp2
  exact bodyPost_ret (v := .agg #[.int .u8 0, .string ⟨#[]⟩, .int .i64 0, .int .i64 (-1000 - n)]) (by simp [results, Tryz.results116, go_sem]) rfl ⟨rfl, (Below.refl _ _).alloc (Nat.le_refl _) _⟩

theorem toks_cells {w : World} {g : Nat} {l : List Tok} (h : ∀ k t, l[k]? = some t → TokAt w g (k * 4) t) (j : Nat) (v : Value) (hv : (l.flatMap Tok.cells)[j]? = some v) : w.cell? ⟨g, j, none⟩ = some v := by
  have hlen : ∀ l : List Tok, (l.flatMap Tok.cells).length = l.length * 4 := fun l => by
    induction l with
    | nil => rfl
    | cons t l ih => rw [List.flatMap_cons, List.length_append, ih]; simp [Tok.cells]; omega
  have hj : j < l.length * 4 := by
    rw [← hlen]; exact (List.getElem?_eq_some_iff.1 hv).1
  have hk : j / 4 < l.length := by omega
  have ht := h (j / 4) _ (List.getElem?_eq_getElem hk)
  have e : j = (j / 4) * 4 + j % 4 := by omega
  have hf := flat_get l (j / 4) (j % 4) _ (List.getElem?_eq_getElem hk) (by omega)
  rw [← e, hv] at hf
  generalize l[j / 4] = t at *
  rw [e]
  rcases (by omega : j % 4 = 0 ∨ j % 4 = 1 ∨ j % 4 = 2 ∨ j % 4 = 3) with h4 | h4 | h4 | h4 <;> rw [h4] at hf ⊢ <;> rw [hf]
  · exact ht.c0
  · exact ht.c1
  · exact ht.c2
  · exact ht.c3
theorem flat_len (l : List Tok) : (l.flatMap Tok.cells).length = l.length * 4 := by
  induction l with
  | nil => rfl
  | cons t l ih => rw [List.flatMap_cons, List.length_append, ih]; simp [Tok.cells]; omega
theorem flat_one (l : List Tok) : ∀ v ∈ l.flatMap Tok.cells, v.oneCell' = true := fun v hv => by
  obtain ⟨t, _, ht⟩ := List.mem_flatMap.1 hv
  simp only [Tok.cells, List.mem_cons, List.not_mem_nil, or_false] at ht
  rcases ht with rfl | rfl | rfl | rfl <;> rfl

theorem made_own (w : World) (cs : Array Value) (T : TypeId) (n : Nat) (hn : n ≤ 100000) (hs : cs.size = (n + 2) * 4) :
    (w.alloc (.cells cs T)).ownsRow w.heap.size T 4 (.slice (some ⟨w.heap.size, 0, none⟩) n (n + 2)) n (cs.toList.take (n * 4)) :=
  ⟨by rw [List.length_take, Array.length_toList]; omega, .inr ⟨w.heap.size, n + 2, cs, rfl, Nat.le_refl _, heap_alloc_new w _, by omega, by simp only [maxLen]; omega, hs, rfl⟩⟩

/-- the world behind the store of a token -/
def putTok (w : World) (g o : Nat) (a b c d : Value) : World := (((w.setCell ⟨g, o, none⟩ a).setCell ⟨g, o + 1, none⟩ b).setCell ⟨g, o + 2, none⟩ c).setCell ⟨g, o + 3, none⟩ d
theorem putTok_own {w : World} {base g n cap o : Nat} {e : TypeId} {xs : List Value} (h : w.ownsRow base e 4 (.slice (some ⟨g, 0, none⟩) n cap) n xs) (ho : n * 4 ≤ o) (a b c d : Value) :
    (putTok w g o a b c d).ownsRow base e 4 (.slice (some ⟨g, 0, none⟩) n cap) n xs :=
  own_set_beyond (own_set_beyond (own_set_beyond (own_set_beyond h ho a) (by omega) b) (by omega) c) (by omega) d
theorem putTok_below {B : Nat} {w0 w : World} {g o : Nat} (hb : Below B w0 w) (hg : B ≤ g) (a b c d : Value) : Below B w0 (putTok w g o a b c d) :=
  (((hb.setCell (p := ⟨g, o, none⟩) hg a).setCell (p := ⟨g, o + 1, none⟩) hg b).setCell (p := ⟨g, o + 2, none⟩) hg c).setCell (p := ⟨g, o + 3, none⟩) hg d
theorem room4 {w : World} {base g n cap o : Nat} {e : TypeId} {xs : List Value} (h : w.ownsRow base e 4 (.slice (some ⟨g, 0, none⟩) n cap) n xs) (ho : o + 4 ≤ cap * 4) :
    (∃ u, w.cell? ⟨g, o, none⟩ = some u) ∧ (∃ u, w.cell? ⟨g, o + 1, none⟩ = some u) ∧ (∃ u, w.cell? ⟨g, o + 2, none⟩ = some u) ∧ (∃ u, w.cell? ⟨g, o + 3, none⟩ = some u) ∧
    w.frozen? ⟨g, o, none⟩ = false ∧ w.frozen? ⟨g, o + 1, none⟩ = false ∧ w.frozen? ⟨g, o + 2, none⟩ = false ∧ w.frozen? ⟨g, o + 3, none⟩ = false :=
  ⟨own_room h (by omega), own_room h (by omega), own_room h (by omega), own_room h (by omega), h.frozenAt _, h.frozenAt _, h.frozenAt _, h.frozenAt _⟩

end Go.Proofs.YthepjanojmemaaaGreatDoor
