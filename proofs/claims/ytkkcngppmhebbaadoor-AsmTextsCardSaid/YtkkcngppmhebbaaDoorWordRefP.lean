/-
  The document's reading of a number; it answers as the program's does.
-/
import Derived.Test.YtkkcngppmhebbaaDoorWordRef
set_option linter.unusedVariables false
set_option linter.unusedSimpArgs false
namespace Go.Proofs.YtkkcngppmhebbaaDoor
open Go.RowKit

/-- what the document's Parse answers -/
def rparseV (l : List UInt8) : Int × Int :=
  if l.head? = some 45 then
    (if (digitsV l.tail 9223372036854775808).2 = false ∨ (digitsV l.tail 9223372036854775808).1 = 0 then (0, 13) else (-((digitsV l.tail 9223372036854775808).1 : Int), 0))
  else (if (digitsV l 9223372036854775807).2 = false then (0, 13) else ((digitsV l 9223372036854775807).1, 0))

theorem parseV_of {l : List UInt8} {v : Int} (h1 : -9223372036854775808 ≤ v) (h2 : v ≤ 9223372036854775807) (h : l = Lib.itoa v) : parseV ⟨l.toArray⟩ = (v, 0) := by
  have hp := parseIntB_itoa v h1 h2
  unfold parseV
  show (match Lib.parseIntB 64 l.toArray.toList with | .ok v => _ | _ => _) = _
  rw [List.toList_toArray, h, hp]
  exact if_pos rfl
theorem parseV_no {l : List UInt8} (h : ∀ v, -9223372036854775808 ≤ v → v ≤ 9223372036854775807 → l ≠ Lib.itoa v) : parseV ⟨l.toArray⟩ = (0, 13) := by
  unfold parseV
  split
  · rename_i v hv
    obtain ⟨b1, b2⟩ := parseIntB_bounds hv
    rw [if_neg]
    intro e
    exact h v b1 b2 (by simpa using e.symm)
  · rfl

theorem rparseV_eq (l : List UInt8) : rparseV l = parseV ⟨l.toArray⟩ := by
  unfold rparseV
  by_cases h45 : l.head? = some 45
  · rw [if_pos h45]
    obtain ⟨r, rfl⟩ : ∃ r, l = 45 :: r := by
      cases l with
      | nil => simp at h45
      | cons c r => exact ⟨r, by simp at h45; rw [h45]⟩
    rw [List.tail_cons]
    have hno : ∀ v : Int, ¬ v < 0 → (45 :: r : List UInt8) ≠ Lib.itoa v := fun v hv e => by
      rw [show Lib.itoa v = Lib.decDigits v.toNat from if_neg hv] at e
      have := (decDigits_facts v.toNat v.toNat (Nat.le_refl _)).1 45 (by rw [← e]; simp)
      revert this; decide
    split
    · rename_i hd
      rw [parseV_no]
      intro v h1 h2 e
      by_cases hv : v < 0
      · rw [show Lib.itoa v = 45 :: Lib.decDigits v.natAbs from if_pos hv] at e
        injection e with _ e
        rw [e, digitsV_dec v.natAbs _ (by omega) (by decide) (by decide)] at hd
        rcases hd with hd | hd
        · cases hd
        · simp at hd; omega
      · exact hno v hv e
    · rename_i hd
      have ht : (digitsV r 9223372036854775808).2 = true := by
        cases h : (digitsV r 9223372036854775808).2
        · exact absurd (.inl h) hd
        · rfl
      have hn : (digitsV r 9223372036854775808).1 ≠ 0 := fun e => hd (.inr e)
      obtain ⟨e, hle⟩ := digitsV_ok (l := r) (most := 9223372036854775808) (n := (digitsV r 9223372036854775808).1) (by decide) (Prod.ext rfl ht)
      rw [parseV_of (v := -((digitsV r 9223372036854775808).1 : Int)) (by omega) (by omega)]
      unfold Lib.itoa
      rw [if_pos (by omega), Int.natAbs_neg, Int.natAbs_natCast, ← e]
  · rw [if_neg h45]
    split
    · rename_i hd
      rw [parseV_no]
      intro v h1 h2 e
      by_cases hv : v < 0
      · rw [show Lib.itoa v = 45 :: Lib.decDigits v.natAbs from if_pos hv] at e
        exact h45 (by rw [e]; rfl)
      · rw [show Lib.itoa v = Lib.decDigits v.toNat from if_neg hv] at e
        rw [e, digitsV_dec v.toNat _ (by omega) (by decide) (by decide)] at hd
        cases hd
    · rename_i hd
      have ht : (digitsV l 9223372036854775807).2 = true := by
        cases h : (digitsV l 9223372036854775807).2
        · exact absurd h hd
        · rfl
      obtain ⟨e, hle⟩ := digitsV_ok (l := l) (most := 9223372036854775807) (n := (digitsV l 9223372036854775807).1) (by decide) (Prod.ext rfl ht)
      rw [parseV_of (v := ((digitsV l 9223372036854775807).1 : Int)) (by omega) (by omega)]
      unfold Lib.itoa
      rw [if_neg (by omega), Int.toNat_natCast, ← e]

theorem rp_eq {l : List UInt8} {p : Int × Int} (h : rparseV l = p) : (Ending.returned (.tuple #[.int .i64 p.1, .int .i64 p.2])) = .returned (.tuple #[.int .i64 (parseV ⟨l.toArray⟩).1, .int .i64 (parseV ⟨l.toArray⟩).2]) := by rw [← rparseV_eq, h]

end Go.Proofs.YtkkcngppmhebbaaDoor
