/-
  The tokens of a text, plain. No program in sight.
-/
import Derived.Test.YthepjanojmemaaaGreatDoorLexPlain
import Derived.Test.YthepjanojmemaaaGreatDoorDigits
set_option linter.unusedVariables false
set_option linter.unusedSimpArgs false
namespace Go.Proofs.YthepjanojmemaaaGreatDoor

structure Tok where
  kd : Int
  text : List UInt8
  n : Int
  line : Nat

def digB (c : UInt8) : Bool := decide (48 ≤ c.toNat) && decide (c.toNat ≤ 57)
def lowB (c : UInt8) : Bool := decide (97 ≤ c.toNat) && decide (c.toNat ≤ 122)
def signPairs : List (List UInt8) := [[61, 61], [33, 61], [60, 61], [62, 61], [38, 38], [124, 124]]
def signOnes : List UInt8 := [123, 125, 40, 41, 91, 93, 46, 44, 59, 61, 60, 62, 43, 45, 42, 47, 37, 33]
/-- a number as int64 has it -/
def w63 (n : Nat) : Int := if n = 9223372036854775808 then -9223372036854775808 else n

/-- the token that begins here: its kind, its text, its number -/
def tokAt : List UInt8 → Option (Int × List UInt8 × Int)
  | [] => none
  | c :: r =>
    if lowB c = true then
      if wordB ((c :: r).takeWhile partB) = true then some (2, (c :: r).takeWhile partB, 0)
      else if ((c :: r).takeWhile partB).length ≤ 16 then some (1, (c :: r).takeWhile partB, 0) else none
    else if digB c = true then
      if (digitsV ((c :: r).takeWhile digB) 9223372036854775808).2 = true then
        some (3, (c :: r).takeWhile digB, w63 (digitsV ((c :: r).takeWhile digB) 9223372036854775808).1)
      else none
    else if signPairs.contains ((c :: r).take 2) = true then some (4, (c :: r).take 2, 0)
    else if signOnes.contains c = true then some (4, [c], 0) else none

theorem tokAt_cons (c : UInt8) (r : List UInt8) : tokAt (c :: r) =
    if lowB c = true then
      if wordB ((c :: r).takeWhile partB) = true then some (2, (c :: r).takeWhile partB, 0)
      else if ((c :: r).takeWhile partB).length ≤ 16 then some (1, (c :: r).takeWhile partB, 0) else none
    else if digB c = true then
      if (digitsV ((c :: r).takeWhile digB) 9223372036854775808).2 = true then
        some (3, (c :: r).takeWhile digB, w63 (digitsV ((c :: r).takeWhile digB) 9223372036854775808).1)
      else none
    else if signPairs.contains ((c :: r).take 2) = true then some (4, (c :: r).take 2, 0)
    else if signOnes.contains c = true then some (4, [c], 0) else none := rfl

inductive LexR where
  | bad (line : Nat)
  | ok (l : List Tok)

def spaceB (c : UInt8) : Bool := c == 32 || c == 9 || c == 13

def scan : Nat → List UInt8 → Nat → List Tok → LexR
  | 0, _, line, _ => .bad line
  | _ + 1, [], _, acc => .ok acc
  | f + 1, c :: r, line, acc =>
    if c = 10 then scan f r (line + 1) acc
    else if spaceB c = true then scan f r line acc
    else if c = 47 ∧ r.head? = some 47 then scan f (r.dropWhile (· != 10)) line acc
    else match tokAt (c :: r) with
      | none => .bad line
      | some (k, t, n) => scan f ((c :: r).drop t.length) line (acc ++ [⟨k, t, n, line⟩])

theorem takeWhile_le {p : UInt8 → Bool} (l : List UInt8) : (l.takeWhile p).length ≤ l.length := (List.takeWhile_prefix p).length_le
theorem tokAt_pos {l : List UInt8} {k n : Int} {t : List UInt8} (h : tokAt l = some (k, t, n)) : 0 < t.length ∧ t.length ≤ l.length ∧ t = l.take t.length := by
  cases l with
  | nil => cases h
  | cons c r =>
    have key : ∀ p : UInt8 → Bool, p c = true → 0 < ((c :: r).takeWhile p).length ∧ ((c :: r).takeWhile p).length ≤ (c :: r).length ∧ (c :: r).takeWhile p = (c :: r).take ((c :: r).takeWhile p).length := fun p hp =>
      ⟨by rw [List.takeWhile_cons_of_pos hp]; simp, takeWhile_le _, List.prefix_iff_eq_take.1 (List.takeWhile_prefix p)⟩
    have hlow : lowB c = true → partB c = true := fun h => by
      unfold lowB at h; unfold partB; rw [h]; rfl
    simp only [tokAt] at h
    split at h
    · rename_i hl
      split at h
      · injection h with h; injection h with _ h; injection h with h _; subst h; exact key partB (hlow hl)
      · split at h
        · injection h with h; injection h with _ h; injection h with h _; subst h; exact key partB (hlow hl)
        · cases h
    · split at h
      · rename_i hd
        split at h
        · injection h with h; injection h with _ h; injection h with h _; subst h; exact key digB hd
        · cases h
      · split at h
        · rename_i hp
          injection h with h; injection h with _ h; injection h with h _; subst h
          have h2 : ((c :: r).take 2).length = 2 := by
            have hm : (c :: r).take 2 ∈ signPairs := by simpa using hp
            simp only [signPairs, List.mem_cons, List.not_mem_nil, or_false] at hm
            rcases hm with h | h | h | h | h | h <;> rw [h] <;> rfl
          rw [h2]
          refine ⟨by omega, ?_, rfl⟩
          rw [List.length_take] at h2; omega
        · split at h
          · injection h with h; injection h with _ h; injection h with h _; subst h
            exact ⟨by simp, by simp, by simp⟩
          · cases h

theorem dropWhile_le {p : UInt8 → Bool} (l : List UInt8) : (l.dropWhile p).length ≤ l.length := (List.dropWhile_suffix p).length_le

/-- enough fuel is as good as more -/
theorem scan_fuel : ∀ (f g : Nat) (r : List UInt8) (line : Nat) (acc : List Tok), r.length < f → r.length < g → scan f r line acc = scan g r line acc
  | 0, _, _, _, _, h, _ => absurd h (by omega)
  | _ + 1, 0, _, _, _, _, h => absurd h (by omega)
  | f + 1, g + 1, [], _, _, _, _ => rfl
  | f + 1, g + 1, c :: r, line, acc, hf, hg => by
    have hf' : r.length < f := by simp at hf; omega
    have hg' : r.length < g := by simp at hg; omega
    simp only [scan]
    rw [scan_fuel f g r (line + 1) acc hf' hg', scan_fuel f g r line acc hf' hg',
      scan_fuel f g (r.dropWhile (· != 10)) line acc (Nat.lt_of_le_of_lt (dropWhile_le r) hf') (Nat.lt_of_le_of_lt (dropWhile_le r) hg')]
    cases h : tokAt (c :: r) with
    | none => rfl
    | some x =>
      obtain ⟨k, t, n⟩ := x
      obtain ⟨h1, h2, _⟩ := tokAt_pos h
      have hd : ((c :: r).drop t.length).length ≤ r.length := by rw [List.length_drop]; simp; omega
      simp only
      rw [scan_fuel f g ((c :: r).drop t.length) line _ (by omega) (by omega)]

/-- what the tokens of a rest are, those that are there put ahead -/
def Scans (r : List UInt8) (line : Nat) (acc : List Tok) (res : LexR) : Prop := scan (r.length + 1) r line acc = res
theorem Scans.at {r : List UInt8} {line : Nat} {acc : List Tok} {res : LexR} (h : Scans r line acc res) {f : Nat} (hf : r.length < f) : scan f r line acc = res :=
  (scan_fuel f (r.length + 1) r line acc hf (by omega)).trans h
theorem Scans.of {r : List UInt8} {line : Nat} {acc : List Tok} {res : LexR} {f : Nat} (hf : r.length < f) (h : scan f r line acc = res) : Scans r line acc res :=
  (scan_fuel (r.length + 1) f r line acc (by omega) hf).trans h

theorem Scans.feed {r : List UInt8} {line : Nat} {acc : List Tok} {res : LexR} (h : Scans (10 :: r) line acc res) : Scans r (line + 1) acc res := h
theorem Scans.space {c : UInt8} {r : List UInt8} {line : Nat} {acc : List Tok} {res : LexR} (h : Scans (c :: r) line acc res) (h1 : c ≠ 10) (h2 : spaceB c = true) : Scans r line acc res := by
  unfold Scans at h
  simp only [scan, List.length_cons, if_neg h1, if_pos h2] at h
  exact h
theorem Scans.remark {r : List UInt8} {line : Nat} {acc : List Tok} {res : LexR} (h : Scans (47 :: 47 :: r) line acc res) : Scans (r.dropWhile (· != 10)) line acc res := by
  refine Scans.of (f := (47 :: r).length + 1) (Nat.lt_of_le_of_lt (dropWhile_le r) (by simp; omega)) ?_
  exact h
theorem Scans.tok {c : UInt8} {r : List UInt8} {line : Nat} {acc : List Tok} {res : LexR} (h : Scans (c :: r) line acc res) (h1 : c ≠ 10) (h2 : spaceB c = false) (h3 : ¬ (c = 47 ∧ r.head? = some 47)) :
    match tokAt (c :: r) with
    | none => res = .bad line
    | some (k, t, n) => Scans ((c :: r).drop t.length) line (acc ++ [⟨k, t, n, line⟩]) res := by
  unfold Scans at h
  simp only [scan, List.length_cons, if_neg h1, h2, Bool.false_eq_true, if_false, if_neg h3] at h
  cases ht : tokAt (c :: r) with
  | none => rw [ht] at h; exact h.symm
  | some x =>
    obtain ⟨k, t, n⟩ := x
    rw [ht] at h
    obtain ⟨p1, p2, _⟩ := tokAt_pos ht
    exact Scans.of (f := r.length + 1) (by rw [List.length_drop, List.length_cons]; omega) h
theorem Scans.ends {line : Nat} {acc : List Tok} {res : LexR} (h : Scans [] line acc res) : res = .ok acc := h.symm
end Go.Proofs.YthepjanojmemaaaGreatDoor
