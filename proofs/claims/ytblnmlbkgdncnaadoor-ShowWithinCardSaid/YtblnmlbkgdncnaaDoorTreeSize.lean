/-
  How much a tree has in it, counted with an early end, plain.
-/
import Derived.Test.YtblnmlbkgdncnaaDoorTreePlain4
set_option linter.unusedVariables false
set_option linter.unusedSimpArgs false
namespace Go.Proofs.YtblnmlbkgdncnaaDoor

mutual
/-- what is left behind an expression's operands -/
def lfE : Ex → Int → Int
  | .mk _ _ _ _ _ args, left => lfL args (left - (args.length : Int))
def lfL : List Ex → Int → Int
  | [], left => left
  | x :: r, left => if left < 0 then left else lfL r (lfE x left)
end
mutual
/-- .. behind a statement -/
def lfS : St → Int → Int
  | .mk _ _ _ x y _ body _ els, left =>
    if lfE x left < 0 then lfE x left
    else if lfE y (lfE x left) < 0 then lfE y (lfE x left)
    else if lfSs body (lfE y (lfE x left) - (body.length : Int)) < 0 then lfSs body (lfE y (lfE x left) - (body.length : Int))
    else lfSs els (lfSs body (lfE y (lfE x left) - (body.length : Int)) - (els.length : Int))
def lfSs : List St → Int → Int
  | [], left => left
  | s :: r, left => if left < 0 then left else lfSs r (lfS s left)
end
mutual
theorem lfE_le : ∀ (x : Ex) (left : Int), lfE x left ≤ left ∧ (0 ≤ lfE x left → lfE x left = left + 1 - (exCount x : Int))
  | .mk k n nm t d args, left => by
    rw [lfE, exCount]
    obtain ⟨h1, h2⟩ := lfL_le args (left - (args.length : Int))
    exact ⟨by omega, fun h => by have := h2 h; push_cast; omega⟩
theorem lfL_le : ∀ (l : List Ex) (left : Int), lfL l left ≤ left ∧ (0 ≤ lfL l left → lfL l left = left + (l.length : Int) - (exCounts l : Int))
  | [], left => by rw [lfL, exCounts]; exact ⟨by omega, fun _ => by simp⟩
  | x :: r, left => by
    rw [lfL, exCounts]
    split
    · next h0 => exact ⟨by omega, fun h => by omega⟩
    · obtain ⟨h1, h2⟩ := lfE_le x left
      obtain ⟨h3, h4⟩ := lfL_le r (lfE x left)
      refine ⟨by omega, fun h => ?_⟩
      have h5 := h4 h
      have h6 := h2 (by omega)
      simp only [List.length_cons]
      push_cast; omega
end
mutual
/-- how many expressions and statements, all counted -/
def stAll : St → Nat
  | .mk _ _ _ x y _ body _ els => 1 + ((exCount x - 1) + ((exCount y - 1) + (stAlls body + stAlls els)))
def stAlls : List St → Nat
  | [] => 0
  | s :: r => stAll s + stAlls r
end
mutual
theorem lfS_le : ∀ (s : St) (left : Int), lfS s left ≤ left ∧ (0 ≤ lfS s left → lfS s left = left + 1 - (stAll s : Int))
  | .mk k nm t x y bd body ed els, left => by
    rw [lfS, stAll]
    obtain ⟨x1, x2⟩ := lfE_le x left
    obtain ⟨y1, y2⟩ := lfE_le y (lfE x left)
    obtain ⟨b1, b2⟩ := lfSs_le body (lfE y (lfE x left) - (body.length : Int))
    obtain ⟨e1, e2⟩ := lfSs_le els (lfSs body (lfE y (lfE x left) - (body.length : Int)) - (els.length : Int))
    have px := exCount_pos x
    have py := exCount_pos y
    split
    · exact ⟨by omega, fun h => by omega⟩
    · split
      · exact ⟨by omega, fun h => by omega⟩
      · split
        · exact ⟨by omega, fun h => by omega⟩
        · refine ⟨by omega, fun h => ?_⟩
          have := e2 h
          have := b2 (by omega)
          have := y2 (by omega)
          have := x2 (by omega)
          push_cast
          omega
theorem lfSs_le : ∀ (l : List St) (left : Int), lfSs l left ≤ left ∧ (0 ≤ lfSs l left → lfSs l left = left + (l.length : Int) - (stAlls l : Int))
  | [], left => by rw [lfSs, stAlls]; exact ⟨by omega, fun _ => by simp⟩
  | s :: r, left => by
    rw [lfSs, stAlls]
    split
    · next h0 => exact ⟨by omega, fun h => by omega⟩
    · obtain ⟨h1, h2⟩ := lfS_le s left
      obtain ⟨h3, h4⟩ := lfSs_le r (lfS s left)
      refine ⟨by omega, fun h => ?_⟩
      have h5 := h4 h
      have h6 := h2 (by omega)
      simp only [List.length_cons]
      push_cast; omega
end
/-- how much was taken off -/
def cntS (left : Int) : Int := if left < 0 then 262145 else 262144 - left
def exSizeS (x : Ex) : Int := cntS (lfE x 262144)
theorem exSize_small {x : Ex} (h : exSizeS x ≤ 262144) : exCount x ≤ 262145 := by
  unfold exSizeS cntS at h
  obtain ⟨h1, h2⟩ := lfE_le x 262144
  split at h
  · omega
  · have := h2 (by omega); omega
theorem exSize_range (x : Ex) : 0 ≤ exSizeS x ∧ exSizeS x ≤ 262145 := by
  unfold exSizeS cntS
  obtain ⟨h1, h2⟩ := lfE_le x 262144
  split <;> omega
end Go.Proofs.YtblnmlbkgdncnaaDoor
