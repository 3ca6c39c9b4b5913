/-
  word.Text returns the decimal text; word.Parse the number of such a text, or the refusal.
-/
import Derived.Test.YthepjanojmemaaaGreatDoorWordGlobs
import Derived.Test.YthepjanojmemaaaGreatDoorWordOps
import Derived.WalkLawsBesides
import Derived.WalkSpells
import Derived.Deep.QuietTactic
import Derived.BigQuiet
set_option linter.unusedVariables false
set_option linter.unusedSimpArgs false
namespace Go.Proofs.YthepjanojmemaaaGreatDoor
open Go.RowKit

theorem below_drewN (B : Nat) (w : World) (k : Nat) : Below B w (w.drewN k) := ⟨rfl, rfl, rfl, Nat.le_refl _, fun _ _ => rfl⟩
theorem below_grow (w : World) (k : Nat) (os : Array Obj) : Below w.heap.size w (Sort.grow (w.drewN k) os) :=
  ⟨rfl, rfl, rfl, by simp [Sort.grow], fun i hi => by simp [Sort.grow, Array.getElem?_append, hi]⟩

/-- what Parse answers -/
def parseV (s : ByteArray) : Int × Int :=
  match Lib.parseIntB 64 s.data.toList with
  | .ok v => if Lib.itoa v = s.data.toList then (v, 0) else (0, 13)
  | _ => (0, 13)

theorem parseIntB_bounds {l : List UInt8} {v : Int} (h : Lib.parseIntB 64 l = .ok v) : -9223372036854775808 ≤ v ∧ v ≤ 9223372036854775807 := by
  unfold Lib.parseIntB at h
  split at h
  · cases h
  · simp only at h
    split at h
    · cases h
    · cases h
    · rename_i u hu
      split at h
      · cases h
      · split at h
        · cases h
        · injection h with h
          subst h
          split <;> omega

/-! ### the law's own check that the program does something at all -/
theorem parse_m7 : parseV ⟨#[45, 55]⟩ = (-7, 0) := by
  simp [parseV, Lib.parseIntB, Lib.parseUintB, Lib.parseUintM, Lib.itoa, Lib.decDigits]
theorem text_m12 : Lib.itoa (-12) = [45, 49, 50] := by
  simp [Lib.itoa, Lib.decDigits]
theorem do_1 : doV 1 2 3 = (5, 0) := by decide +kernel
theorem do_2 : doV 4 1 0 = (0, 4) := by decide +kernel

end Go.Proofs.YthepjanojmemaaaGreatDoor
