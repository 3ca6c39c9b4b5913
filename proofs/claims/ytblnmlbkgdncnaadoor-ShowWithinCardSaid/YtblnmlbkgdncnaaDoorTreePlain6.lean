/-
  How long a program's text is at most. Plain.
-/
import Derived.Test.YtblnmlbkgdncnaaDoorTreePlain4
set_option linter.unusedVariables false
set_option linter.unusedSimpArgs false
namespace Go.Proofs.YtblnmlbkgdncnaaDoor

theorem flat_le {α : Type} (f : α → List UInt8) (n : Nat) : ∀ l : List α, (∀ x ∈ l, (f x).length ≤ n) → (l.map f).flatten.length ≤ n * l.length
  | [], _ => by simp
  | x :: r, h => by
    have h1 := flat_le f n r (fun y hy => h y (by simp [hy]))
    have h2 := h x (by simp)
    rw [List.map_cons, List.flatten_cons, List.length_append, List.length_cons, Nat.mul_succ]
    omega
theorem sum_mem {α : Type} (f : α → Nat) : ∀ (l : List α) (x : α), x ∈ l → f x ≤ (l.map f).sum
  | y :: r, x, h => by
    rw [List.map_cons, List.sum_cons]
    rcases List.mem_cons.1 h with rfl | h
    · omega
    · have := sum_mem f r x h; omega
/-- every number of a program's statements is one of 64 bits -/
structure PrNum (p : Pr) : Prop where
  fs : ∀ f ∈ p.fs, ∀ s ∈ f.body, StNum s
  ts : ∀ t ∈ p.ts, ∀ s ∈ t.l, StNum s
theorem reText_len {r : Re} (h : nameB r.nm = true ∧ r.fs ≠ [] ∧ chkFls 0 r.fs = 0) : (reText r).length ≤ 1300 := by
  have h1 := (nameB_len h.1).1
  have h2 := flsText_len h.2.2 [59, 10, 32, 32] (by decide)
  unfold reText
  simp only [List.length_append, List.length_cons, List.length_nil]
  omega
theorem shText_len {f : Fl} (h : chkFls 0 [f] = 0) : (shText f).length ≤ 100 := by
  have h1 := flText_len ((chkFls_ok [f] 0 h).2 f (by simp))
  unfold shText
  simp only [List.length_append, List.length_cons, List.length_nil]
  omega
theorem fuHead_len {f : Fu} (h : nameB f.nm = true ∧ chkFls 0 f.ps = 0 ∧ (noTy f.t = true ∨ tyForm f.t = 0)) : (fuHead f).length ≤ 1300 := by
  have h1 := (nameB_len h.1).1
  have h2 := flsText_len h.2.1 [44, 32] (by decide)
  unfold fuHead
  rcases h.2.2 with h3 | h3
  · rw [if_pos h3]
    simp only [List.length_append, List.length_cons, List.length_nil]
    omega
  · have h4 := tyText_len h3
    split <;> (simp only [List.length_append, List.length_cons, List.length_nil]; omega)
theorem prText_len {p : Pr} (h : PrGood p) (hn : PrNum p) : (prText p).length ≤ 20000000 := by
  have hit := h.items
  unfold itemsOf at hit
  have a1 := flat_le reText 1300 p.rs (fun r hr => reText_len (h.recs.2 r hr))
  have a2 := flat_le shText 100 p.ss (fun f hf => shText_len (h.shs.2 f hf))
  have a3 := flat_le fuText 320000 p.fs (fun f hf => by
    obtain ⟨g1, g2, g3, a, a', g4⟩ := h.funs.2 f hf
    have e1 := fuHead_len (f := f) ⟨g1, g2, g3⟩
    have e2 := stTexts_len f.body 1 a a' [32, 32] (hn.fs f hf) g4 (by decide)
    have e3 := sum_mem (fun f : Fu => stCounts f.body) p.fs f hf
    rw [fuText_is]
    simp only [List.length_append, List.length_cons, List.length_nil]
    omega)
  have a4 := flat_le thText 320000 p.ts (fun t ht => by
    obtain ⟨a, a', g4⟩ := h.thrs.2 t ht
    have e2 := stTexts_len t.l 1 a a' [32, 32] (hn.ts t ht) g4 (by decide)
    have e3 := sum_mem (fun t : Th => stCounts t.l) p.ts t ht
    rw [thText_is]
    simp only [List.length_append, List.length_cons, List.length_nil]
    omega)
  have b1 : 1300 * p.rs.length ≤ 1300 * 16 := Nat.mul_le_mul_left _ h.recs.1
  have b2 : 100 * p.ss.length ≤ 100 * 1024 := Nat.mul_le_mul_left _ h.shs.1
  have b3 : 320000 * p.fs.length ≤ 320000 * 32 := Nat.mul_le_mul_left _ h.funs.1
  have b4 : 320000 * p.ts.length ≤ 320000 * 4 := Nat.mul_le_mul_left _ h.thrs.1
  unfold prText
  simp only [List.length_append]
  omega
end Go.Proofs.YtblnmlbkgdncnaaDoor
