/-
  The reading of one instruction, part by part; plain.
-/
import Derived.Test.YtkkcngppmhebbaaGreatDoorAsmTextP
set_option linter.unusedVariables false
set_option linter.unusedSimpArgs false
namespace Go.Proofs.YtkkcngppmhebbaaGreatDoor
open Go.RowKit

def setReg (o : Cmd) (q : Nat) (v : Int) : Cmd := if q = 0 then { o with a := v } else if q = 1 then { o with b := v } else { o with d := v }
/-- parts and words, one behind the other; none: a word that may not be -/
def runParts (o : Cmd) (q : Nat) (g : List (List UInt8)) : List UInt8 → List (List UInt8) → Option (Cmd × List (List UInt8))
  | [], _ => some (o, g)
  | _ :: _, [] => none
  | p :: ps, x :: xs =>
    if p = 99 then runParts { o with c := calcOf x } q g ps xs
    else if p = 114 then (match regOf x with | some v => runParts (setReg o q v) (q + 1) g ps xs | none => none)
    else if (parseV ⟨x.toArray⟩).2 = 0 then runParts { o with n := (parseV ⟨x.toArray⟩).1 } q g ps xs
    else if p = 108 ∧ labelB x = true then runParts o q (g ++ [x]) ps xs else none

theorem runParts_nil (o : Cmd) (q : Nat) (g : List (List UInt8)) (xs : List (List UInt8)) : runParts o q g [] xs = some (o, g) := by unfold runParts; rfl
theorem runParts_c (o : Cmd) (q : Nat) (g : List (List UInt8)) (ps : List UInt8) (x : List UInt8) (xs : List (List UInt8)) : runParts o q g (99 :: ps) (x :: xs) = runParts { o with c := calcOf x } q g ps xs := by rw [runParts, if_pos rfl]
theorem runParts_r (o : Cmd) (q : Nat) (g : List (List UInt8)) (ps : List UInt8) (x : List UInt8) (xs : List (List UInt8)) : runParts o q g (114 :: ps) (x :: xs) = match regOf x with | some v => runParts (setReg o q v) (q + 1) g ps xs | none => none := by rw [runParts, if_neg (by decide), if_pos rfl]
theorem runParts_n (o : Cmd) (q : Nat) (g : List (List UInt8)) (p : UInt8) (ps : List UInt8) (x : List UInt8) (xs : List (List UInt8)) (h1 : p ≠ 99) (h2 : p ≠ 114) : runParts o q g (p :: ps) (x :: xs) = if (parseV ⟨x.toArray⟩).2 = 0 then runParts { o with n := (parseV ⟨x.toArray⟩).1 } q g ps xs else if p = 108 ∧ labelB x = true then runParts o q (g ++ [x]) ps xs else none := by rw [runParts, if_neg h1, if_neg h2]

theorem regOf_zero_or (w : List UInt8) : regOf w = none ∨ ∃ v, regOf w = some v := by cases h : regOf w <;> simp

theorem run_rn (k lo hi : Int) (rest : List (List UInt8)) (hl : rest.length = 2) :
    (match regOf (rest.getD (0 + 0) []), some 0, some 0, numV ⟨false, 1, true, lo, hi, false⟩ (rest.getD (0 + 1) []) with
       | some a, some b, some d, some (n, g) => if okV ⟨k, 0, a, b, d, n⟩ then some ((⟨k, 0, a, b, d, n⟩ : Cmd), g) else none
       | _, _, _, _ => none) =
      (match runParts ⟨k, 0, 0, 0, 0, 0⟩ 0 [] [114, 110] rest with | some (o, g) => if okV o then some (o, g) else none | none => none) := by
  obtain ⟨x, y, rfl⟩ : ∃ x y, rest = [x, y] := by
    match rest, hl with
    | [x, y], _ => exact ⟨x, y, rfl⟩
  rw [runParts_r]
  cases hx : regOf x
  · simp [hx, List.getD]
  dsimp only
  rw [runParts_n _ _ _ _ _ _ _ (by decide) (by decide)]
  by_cases h1 : (parseV ⟨y.toArray⟩).2 = 0
  · rw [if_pos h1, runParts_nil]
    simp [hx, numV, h1, setReg, List.getD]
  · rw [if_neg h1, if_neg (fun h => absurd h.1 (by decide))]
    simp [hx, numV, h1, List.getD]
theorem run_rr (k lo hi : Int) (rest : List (List UInt8)) (hl : rest.length = 2) :
    (match regOf (rest.getD (0 + 0) []), regOf (rest.getD (0 + 1) []), some 0, numV ⟨false, 2, false, lo, hi, false⟩ (rest.getD (0 + 2) []) with
       | some a, some b, some d, some (n, g) => if okV ⟨k, 0, a, b, d, n⟩ then some ((⟨k, 0, a, b, d, n⟩ : Cmd), g) else none
       | _, _, _, _ => none) =
      (match runParts ⟨k, 0, 0, 0, 0, 0⟩ 0 [] [114, 114] rest with | some (o, g) => if okV o then some (o, g) else none | none => none) := by
  obtain ⟨x, y, rfl⟩ : ∃ x y, rest = [x, y] := by
    match rest, hl with
    | [x, y], _ => exact ⟨x, y, rfl⟩
  rw [runParts_r]
  cases hx : regOf x
  · simp [hx, List.getD]
  dsimp only
  rw [runParts_r]
  cases hy : regOf y
  · simp [hy, List.getD]
  dsimp only
  rw [runParts_nil]
  simp [hx, hy, numV, setReg, List.getD]
theorem run_crr (k lo hi : Int) (rest : List (List UInt8)) (hl : rest.length = 3) :
    (match regOf (rest.getD (1 + 0) []), regOf (rest.getD (1 + 1) []), some 0, numV ⟨true, 2, false, lo, hi, false⟩ (rest.getD (1 + 2) []) with
       | some a, some b, some d, some (n, g) => if okV ⟨k, calcOf (rest.getD 0 []), a, b, d, n⟩ then some ((⟨k, calcOf (rest.getD 0 []), a, b, d, n⟩ : Cmd), g) else none
       | _, _, _, _ => none) =
      (match runParts ⟨k, 0, 0, 0, 0, 0⟩ 0 [] [99, 114, 114] rest with | some (o, g) => if okV o then some (o, g) else none | none => none) := by
  obtain ⟨x, y, z, rfl⟩ : ∃ x y z, rest = [x, y, z] := by
    match rest, hl with
    | [x, y, z], _ => exact ⟨x, y, z, rfl⟩
  rw [runParts_c]
  rw [runParts_r]
  cases hy : regOf y
  · simp [hy, List.getD]
  dsimp only
  rw [runParts_r]
  cases hz : regOf z
  · simp [hz, List.getD]
  dsimp only
  rw [runParts_nil]
  simp [hy, hz, numV, setReg, List.getD]
theorem run_rrn (k lo hi : Int) (rest : List (List UInt8)) (hl : rest.length = 3) :
    (match regOf (rest.getD (0 + 0) []), regOf (rest.getD (0 + 1) []), some 0, numV ⟨false, 2, true, lo, hi, false⟩ (rest.getD (0 + 2) []) with
       | some a, some b, some d, some (n, g) => if okV ⟨k, 0, a, b, d, n⟩ then some ((⟨k, 0, a, b, d, n⟩ : Cmd), g) else none
       | _, _, _, _ => none) =
      (match runParts ⟨k, 0, 0, 0, 0, 0⟩ 0 [] [114, 114, 110] rest with | some (o, g) => if okV o then some (o, g) else none | none => none) := by
  obtain ⟨x, y, z, rfl⟩ : ∃ x y z, rest = [x, y, z] := by
    match rest, hl with
    | [x, y, z], _ => exact ⟨x, y, z, rfl⟩
  rw [runParts_r]
  cases hx : regOf x
  · simp [hx, List.getD]
  dsimp only
  rw [runParts_r]
  cases hy : regOf y
  · simp [hy, List.getD]
  dsimp only
  rw [runParts_n _ _ _ _ _ _ _ (by decide) (by decide)]
  by_cases h1 : (parseV ⟨z.toArray⟩).2 = 0
  · rw [if_pos h1, runParts_nil]
    simp [hx, hy, numV, h1, setReg, List.getD]
  · rw [if_neg h1, if_neg (fun h => absurd h.1 (by decide))]
    simp [hx, hy, numV, h1, List.getD]
theorem run_l (k lo hi : Int) (rest : List (List UInt8)) (hl : rest.length = 1) :
    (match some 0, some 0, some 0, numV ⟨false, 0, true, lo, hi, true⟩ (rest.getD (0 + 0) []) with
       | some a, some b, some d, some (n, g) => if okV ⟨k, 0, a, b, d, n⟩ then some ((⟨k, 0, a, b, d, n⟩ : Cmd), g) else none
       | _, _, _, _ => none) =
      (match runParts ⟨k, 0, 0, 0, 0, 0⟩ 0 [] [108] rest with | some (o, g) => if okV o then some (o, g) else none | none => none) := by
  obtain ⟨x, rfl⟩ : ∃ x, rest = [x] := by
    match rest, hl with
    | [x], _ => exact ⟨x, rfl⟩
  rw [runParts_n _ _ _ _ _ _ _ (by decide) (by decide)]
  by_cases h1 : (parseV ⟨x.toArray⟩).2 = 0
  · rw [if_pos h1, runParts_nil]
    simp [numV, h1, setReg, List.getD]
  by_cases h2 : labelB x = true
  · rw [if_neg h1, if_pos ⟨rfl, h2⟩, runParts_nil]
    simp [numV, h1, h2, setReg, List.getD]
  · rw [if_neg h1, if_neg (fun h => h2 h.2)]
    simp [numV, h1, h2, List.getD]
theorem run_rl (k lo hi : Int) (rest : List (List UInt8)) (hl : rest.length = 2) :
    (match regOf (rest.getD (0 + 0) []), some 0, some 0, numV ⟨false, 1, true, lo, hi, true⟩ (rest.getD (0 + 1) []) with
       | some a, some b, some d, some (n, g) => if okV ⟨k, 0, a, b, d, n⟩ then some ((⟨k, 0, a, b, d, n⟩ : Cmd), g) else none
       | _, _, _, _ => none) =
      (match runParts ⟨k, 0, 0, 0, 0, 0⟩ 0 [] [114, 108] rest with | some (o, g) => if okV o then some (o, g) else none | none => none) := by
  obtain ⟨x, y, rfl⟩ : ∃ x y, rest = [x, y] := by
    match rest, hl with
    | [x, y], _ => exact ⟨x, y, rfl⟩
  rw [runParts_r]
  cases hx : regOf x
  · simp [hx, List.getD]
  dsimp only
  rw [runParts_n _ _ _ _ _ _ _ (by decide) (by decide)]
  by_cases h1 : (parseV ⟨y.toArray⟩).2 = 0
  · rw [if_pos h1, runParts_nil]
    simp [hx, numV, h1, setReg, List.getD]
  by_cases h2 : labelB y = true
  · rw [if_neg h1, if_pos ⟨rfl, h2⟩, runParts_nil]
    simp [hx, numV, h1, h2, setReg, List.getD]
  · rw [if_neg h1, if_neg (fun h => h2 h.2)]
    simp [hx, numV, h1, h2, List.getD]
theorem run_rrrn (k lo hi : Int) (rest : List (List UInt8)) (hl : rest.length = 4) :
    (match regOf (rest.getD (0 + 0) []), regOf (rest.getD (0 + 1) []), regOf (rest.getD (0 + 2) []), numV ⟨false, 3, true, lo, hi, false⟩ (rest.getD (0 + 3) []) with
       | some a, some b, some d, some (n, g) => if okV ⟨k, 0, a, b, d, n⟩ then some ((⟨k, 0, a, b, d, n⟩ : Cmd), g) else none
       | _, _, _, _ => none) =
      (match runParts ⟨k, 0, 0, 0, 0, 0⟩ 0 [] [114, 114, 114, 110] rest with | some (o, g) => if okV o then some (o, g) else none | none => none) := by
  obtain ⟨x, y, z, u, rfl⟩ : ∃ x y z u, rest = [x, y, z, u] := by
    match rest, hl with
    | [x, y, z, u], _ => exact ⟨x, y, z, u, rfl⟩
  rw [runParts_r]
  cases hx : regOf x
  · simp [hx, List.getD]
  dsimp only
  rw [runParts_r]
  cases hy : regOf y
  · simp [hy, List.getD]
  dsimp only
  rw [runParts_r]
  cases hz : regOf z
  · simp [hz, List.getD]
  dsimp only
  rw [runParts_n _ _ _ _ _ _ _ (by decide) (by decide)]
  by_cases h1 : (parseV ⟨u.toArray⟩).2 = 0
  · rw [if_pos h1, runParts_nil]
    simp [hx, hy, hz, numV, h1, setReg, List.getD]
  · rw [if_neg h1, if_neg (fun h => absurd h.1 (by decide))]
    simp [hx, hy, hz, numV, h1, List.getD]
theorem run_0 (k lo hi : Int) (rest : List (List UInt8)) (hl : rest.length = 0) :
    (match some 0, some 0, some 0, numV ⟨false, 0, false, lo, hi, false⟩ (rest.getD (0 + 0) []) with
       | some a, some b, some d, some (n, g) => if okV ⟨k, 0, a, b, d, n⟩ then some ((⟨k, 0, a, b, d, n⟩ : Cmd), g) else none
       | _, _, _, _ => none) =
      (match runParts ⟨k, 0, 0, 0, 0, 0⟩ 0 [] [] rest with | some (o, g) => if okV o then some (o, g) else none | none => none) := by
  obtain rfl : rest = [] := List.eq_nil_of_length_eq_zero hl
  rw [runParts_nil]
  simp [numV, setReg, List.getD]
theorem run_r (k lo hi : Int) (rest : List (List UInt8)) (hl : rest.length = 1) :
    (match regOf (rest.getD (0 + 0) []), some 0, some 0, numV ⟨false, 1, false, lo, hi, false⟩ (rest.getD (0 + 1) []) with
       | some a, some b, some d, some (n, g) => if okV ⟨k, 0, a, b, d, n⟩ then some ((⟨k, 0, a, b, d, n⟩ : Cmd), g) else none
       | _, _, _, _ => none) =
      (match runParts ⟨k, 0, 0, 0, 0, 0⟩ 0 [] [114] rest with | some (o, g) => if okV o then some (o, g) else none | none => none) := by
  obtain ⟨x, rfl⟩ : ∃ x, rest = [x] := by
    match rest, hl with
    | [x], _ => exact ⟨x, rfl⟩
  rw [runParts_r]
  cases hx : regOf x
  · simp [hx, List.getD]
  dsimp only
  rw [runParts_nil]
  simp [hx, numV, setReg, List.getD]
theorem run_n (k lo hi : Int) (rest : List (List UInt8)) (hl : rest.length = 1) :
    (match some 0, some 0, some 0, numV ⟨false, 0, true, lo, hi, false⟩ (rest.getD (0 + 0) []) with
       | some a, some b, some d, some (n, g) => if okV ⟨k, 0, a, b, d, n⟩ then some ((⟨k, 0, a, b, d, n⟩ : Cmd), g) else none
       | _, _, _, _ => none) =
      (match runParts ⟨k, 0, 0, 0, 0, 0⟩ 0 [] [110] rest with | some (o, g) => if okV o then some (o, g) else none | none => none) := by
  obtain ⟨x, rfl⟩ : ∃ x, rest = [x] := by
    match rest, hl with
    | [x], _ => exact ⟨x, rfl⟩
  rw [runParts_n _ _ _ _ _ _ _ (by decide) (by decide)]
  by_cases h1 : (parseV ⟨x.toArray⟩).2 = 0
  · rw [if_pos h1, runParts_nil]
    simp [numV, h1, setReg, List.getD]
  · rw [if_neg h1, if_neg (fun h => absurd h.1 (by decide))]
    simp [numV, h1, List.getD]

theorem cmdV_run (w0 : List UInt8) (rest : List (List UInt8)) : cmdV w0 rest = match formV (kindOf w0) with
    | none => none
    | some _ => if rest.length = (partsV (kindOf w0)).length then (match runParts ⟨kindOf w0, 0, 0, 0, 0, 0⟩ 0 [] (partsV (kindOf w0)) rest with | some (o, g) => if okV o then some (o, g) else none | none => none) else none := by
  unfold cmdV
  rcases formV_cases (kindOf w0) with h | ⟨h0, -⟩
  · generalize kindOf w0 = k at *
    have key : ∀ f, formV k = some f → (partsV k).length = f.cal.toNat + f.regs + f.num.toNat := by
      intro f hf
      rcases h with rfl | rfl | rfl | rfl | rfl | rfl | rfl | rfl | rfl | rfl | rfl | rfl | rfl | rfl | rfl
      all_goals (obtain rfl := (Option.some.inj hf).symm; rfl)
    cases hf : formV k with
    | none => rfl
    | some f =>
      dsimp only
      rw [← key f hf]
      by_cases hl : rest.length = (partsV k).length
      · rw [if_pos hl, if_pos hl]
        rcases h with rfl | rfl | rfl | rfl | rfl | rfl | rfl | rfl | rfl | rfl | rfl | rfl | rfl | rfl | rfl
        all_goals obtain rfl := (Option.some.inj hf).symm
        · exact run_rn _ _ _ rest hl
        · exact run_rr _ (-9223372036854775808) 9223372036854775807 rest hl
        · exact run_crr _ (-9223372036854775808) 9223372036854775807 rest hl
        · exact run_rrn _ _ _ rest hl
        · exact run_rrn _ _ _ rest hl
        · exact run_l _ _ _ rest hl
        · exact run_rl _ _ _ rest hl
        · exact run_rrrn _ _ _ rest hl
        · exact run_rrn _ _ _ rest hl
        · exact run_0 _ (-9223372036854775808) 9223372036854775807 rest hl
        · exact run_r _ (-9223372036854775808) 9223372036854775807 rest hl
        · exact run_rrn _ _ _ rest hl
        · exact run_n _ _ _ rest hl
        · exact run_0 _ (-9223372036854775808) 9223372036854775807 rest hl
        · exact run_rrn _ _ _ rest hl
      · rw [if_neg hl, if_neg hl]
  · rw [h0]
end Go.Proofs.YtkkcngppmhebbaaGreatDoor
