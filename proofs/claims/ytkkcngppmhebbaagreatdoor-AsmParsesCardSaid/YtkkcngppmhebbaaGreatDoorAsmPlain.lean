/-
  Layer 18, plain: instructions; their text; how a text is read. No program in sight.
-/
import Derived.Test.YtkkcngppmhebbaaGreatDoorWordRefP
set_option linter.unusedVariables false
set_option linter.unusedSimpArgs false
namespace Go.Proofs.YtkkcngppmhebbaaGreatDoor
open Go.RowKit

/-- an instruction -/
structure Cmd where
  k : Int
  c : Int
  a : Int
  b : Int
  d : Int
  n : Int
deriving DecidableEq
def Cmd.cells (o : Cmd) : List Value := [.int .u8 o.k, .int .u8 o.c, .int .u8 o.a, .int .u8 o.b, .int .u8 o.d, .int .i64 o.n]
structure Cmd.Wf (o : Cmd) : Prop where
  k : 0 ≤ o.k ∧ o.k ≤ 255
  c : 0 ≤ o.c ∧ o.c ≤ 255
  a : 0 ≤ o.a ∧ o.a ≤ 255
  b : 0 ≤ o.b ∧ o.b ≤ 255
  d : 0 ≤ o.d ∧ o.d ≤ 255
  n : -9223372036854775808 ≤ o.n ∧ o.n ≤ 9223372036854775807

/-- what a kind has: an operation, registers, a number and its bounds, and whether a label may stand for it -/
structure Form where
  cal : Bool
  regs : Nat
  num : Bool
  lo : Int
  hi : Int
  jump : Bool
def formV (k : Int) : Option Form :=
  if k = 1 then some ⟨false, 1, true, -9223372036854775808, 9223372036854775807, false⟩
  else if k = 2 then some ⟨false, 2, false, -9223372036854775808, 9223372036854775807, false⟩
  else if k = 3 then some ⟨true, 2, false, -9223372036854775808, 9223372036854775807, false⟩
  else if k = 4 then some ⟨false, 2, true, -9223372036854775808, 9223372036854775807, false⟩
  else if k = 5 then some ⟨false, 2, true, -9223372036854775808, 9223372036854775807, false⟩
  else if k = 6 then some ⟨false, 0, true, 0, 262144, true⟩
  else if k = 7 then some ⟨false, 1, true, 0, 262144, true⟩
  else if k = 8 then some ⟨false, 3, true, -9223372036854775808, 9223372036854775807, false⟩
  else if k = 9 then some ⟨false, 2, true, -9223372036854775808, 9223372036854775807, false⟩
  else if k = 10 then some ⟨false, 0, false, -9223372036854775808, 9223372036854775807, false⟩
  else if k = 11 then some ⟨false, 1, false, -9223372036854775808, 9223372036854775807, false⟩
  else if k = 12 then some ⟨false, 2, true, 1, 8, false⟩
  else if k = 13 then some ⟨false, 0, true, 2, 8, false⟩
  else if k = 14 then some ⟨false, 0, false, -9223372036854775808, 9223372036854775807, false⟩
  else if k = 15 then some ⟨false, 2, true, -9223372036854775808, 9223372036854775807, false⟩
  else none
theorem formV_cases (k : Int) : (k = 1 ∨ k = 2 ∨ k = 3 ∨ k = 4 ∨ k = 5 ∨ k = 6 ∨ k = 7 ∨ k = 8 ∨ k = 9 ∨ k = 10 ∨ k = 11 ∨ k = 12 ∨ k = 13 ∨ k = 14 ∨ k = 15) ∨ (formV k = none ∧ k ≠ 1 ∧ k ≠ 2 ∧ k ≠ 3 ∧ k ≠ 4 ∧ k ≠ 5 ∧ k ≠ 6 ∧ k ≠ 7 ∧ k ≠ 8 ∧ k ≠ 9 ∧ k ≠ 10 ∧ k ≠ 11 ∧ k ≠ 12 ∧ k ≠ 13 ∧ k ≠ 14 ∧ k ≠ 15) := by
  by_cases h : (k = 1 ∨ k = 2 ∨ k = 3 ∨ k = 4 ∨ k = 5 ∨ k = 6 ∨ k = 7 ∨ k = 8 ∨ k = 9 ∨ k = 10 ∨ k = 11 ∨ k = 12 ∨ k = 13 ∨ k = 14 ∨ k = 15)
  · exact .inl h
  · refine .inr ?_
    simp only [not_or] at h
    obtain ⟨h1, h2, h3, h4, h5, h6, h7, h8, h9, h10, h11, h12, h13, h14, h15⟩ := h
    refine ⟨?_, h1, h2, h3, h4, h5, h6, h7, h8, h9, h10, h11, h12, h13, h14, h15⟩
    unfold formV
    rw [if_neg h1, if_neg h2, if_neg h3, if_neg h4, if_neg h5, if_neg h6, if_neg h7, if_neg h8, if_neg h9, if_neg h10, if_neg h11, if_neg h12, if_neg h13, if_neg h14, if_neg h15]

/-- may a register's number stand at place i where r registers are wanted? -/
def regB (r i : Nat) (x : Int) : Bool := if i < r then decide (x < 8) else x == 0
/-- may an instruction be? -/
def okV (o : Cmd) : Bool :=
  match formV o.k with
  | none => false
  | some f => (f.cal == !(o.c == 0)) && decide (o.c ≤ 14) && regB f.regs 0 o.a && regB f.regs 1 o.b && regB f.regs 2 o.d && (if f.num then decide (f.lo ≤ o.n ∧ o.n ≤ f.hi) else o.n == 0)

/-! ### words -/
def kindWords : List (List UInt8) := [[115, 101, 116], [109, 111, 118, 101], [99, 97, 108, 99], [108, 111, 97, 100], [115, 116, 111, 114, 101], [106, 117, 109, 112], [122, 101, 114, 111], [99, 97, 115], [120, 97, 100, 100], [102, 101, 110, 99, 101], [111, 117, 116], [110, 111, 116, 101], [116, 114, 97, 112], [104, 97, 108, 116], [108, 111, 111, 107]]
def calcWords : List (List UInt8) := [[97, 100, 100], [115, 117, 98], [109, 117, 108], [100, 105, 118], [109, 111, 100], [97, 110, 100], [111, 114], [120, 111, 114], [115, 104, 108], [115, 104, 114], [101, 113], [110, 101], [108, 116], [108, 101]]
def findV (w : List UInt8) : List (List UInt8) → Nat → Option Nat
  | [], _ => none
  | x :: l, i => if x = w then some i else findV w l (i + 1)
def kindOf (w : List UInt8) : Int := match findV w kindWords 1 with | some i => (i : Int) | none => 0
def calcOf (w : List UInt8) : Int := match findV w calcWords 1 with | some i => (i : Int) | none => 0
def kindW (k : Int) : List UInt8 := kindWords.getD (k.toNat - 1) []
def calcW (c : Int) : List UInt8 := calcWords.getD (c.toNat - 1) []
def regOf (w : List UInt8) : Option Int :=
  match w with
  | [r, x] => if r = 114 ∧ 48 ≤ x.toNat ∧ x.toNat ≤ 55 then some ((x.toNat : Int) - 48) else none
  | _ => none
def lowV (c : UInt8) : Bool := decide (97 ≤ c.toNat) && decide (c.toNat ≤ 122)
def nameV (c : UInt8) : Bool := lowV c || (decide (48 ≤ c.toNat) && decide (c.toNat ≤ 57)) || c == 95
def labelB (w : List UInt8) : Bool :=
  match w with
  | [] => false
  | x :: r => decide (w.length ≤ 16) && lowV x && r.all nameV

/-! ### the text of instructions -/
def regText (x : Int) : List UInt8 := 32 :: 114 :: Lib.itoa x
def textOp (o : Cmd) : List UInt8 :=
  match formV o.k with
  | none => []
  | some f => kindW o.k ++ (if f.cal then 32 :: calcW o.c else []) ++ (([o.a, o.b, o.d].take f.regs).flatMap regText) ++ (if f.num then 32 :: Lib.itoa o.n else []) ++ [10]
def textGo (t : List UInt8) : List Cmd → Option (List UInt8)
  | [] => some t
  | o :: l => if (t ++ textOp o).length > 65536 then none else textGo (t ++ textOp o) l
/-- what Text answers: the text, the error -/
def textA (l : List Cmd) : List UInt8 × Int :=
  if l.length > 262144 then ([], 3)
  else if l.all okV then (match textGo [] l with | some t => (t, 0) | none => ([], 3))
  else ([], 1)

/-! ### the reading of a text -/
def flushV (cur : List UInt8) : List (List UInt8) := if cur.isEmpty then [] else [cur]
def wordsGo : List UInt8 → List UInt8 → List (List UInt8)
  | cur, [] => flushV cur
  | cur, b :: l => if b = 35 then flushV cur else if b = 32 ∨ b = 9 then flushV cur ++ wordsGo [] l else wordsGo (cur ++ [b]) l
/-- a line's words -/
def wordsV (l : List UInt8) : List (List UInt8) := wordsGo [] l
def linesGo : List UInt8 → List UInt8 → List (List UInt8)
  | cur, [] => [cur]
  | cur, b :: l => if b = 10 then cur :: linesGo [] l else linesGo (cur ++ [b]) l
/-- a text's lines -/
def linesV (s : List UInt8) : List (List UInt8) := linesGo [] s

/-- what has been read: instructions, labels and their places, jumps to labels (instruction, line, label) -/
structure Rd where
  ops : List Cmd
  labels : List (List UInt8 × Nat)
  goals : List (Nat × Nat × List UInt8)
def lookV (w : List UInt8) : List (List UInt8 × Nat) → Option Nat
  | [] => none
  | x :: l => if x.1 = w then some x.2 else lookV w l
def numV (f : Form) (w : List UInt8) : Option (Int × List (List UInt8)) :=
  if f.num then (if (parseV ⟨w.toArray⟩).2 = 0 then some ((parseV ⟨w.toArray⟩).1, []) else if f.jump && labelB w then some (0, [w]) else none) else some (0, [])
/-- the instruction of words, and the label that it jumps to -/
def cmdV (w0 : List UInt8) (rest : List (List UInt8)) : Option (Cmd × List (List UInt8)) :=
  match formV (kindOf w0) with
  | none => none
  | some f =>
    if rest.length = f.cal.toNat + f.regs + f.num.toNat then
      (let c := if f.cal then calcOf (rest.getD 0 []) else 0
       let rg := fun (i : Nat) => if i < f.regs then regOf (rest.getD (f.cal.toNat + i) []) else some 0
       match rg 0, rg 1, rg 2, numV f (rest.getD (f.cal.toNat + f.regs) []) with
       | some a, some b, some d, some (n, g) => if okV ⟨kindOf w0, c, a, b, d, n⟩ then some (⟨kindOf w0, c, a, b, d, n⟩, g) else none
       | _, _, _, _ => none)
    else none
def insV (r : Rd) (w0 : List UInt8) (rest : List (List UInt8)) (line : Nat) : Option Rd :=
  match cmdV w0 rest with
  | none => none
  | some (o, g) => some { r with ops := r.ops ++ [o], goals := r.goals ++ g.map fun w => (r.ops.length, line, w) }
/-- a line: what is known behind it, or the error -/
def lineV (r : Rd) (line : Nat) : List (List UInt8) → Rd ⊕ Int
  | [] => .inl r
  | w0 :: rest =>
    if rest = [] ∧ w0.getLast? = some 58 then
      (if labelB w0.dropLast then (match lookV w0.dropLast r.labels with | some _ => .inr 8 | none => .inl { r with labels := r.labels ++ [(w0.dropLast, r.ops.length)] }) else .inr 13)
    else match insV r w0 rest line with
      | some r' => .inl r'
      | none => .inr 13
def runV (r : Rd) (line : Nat) : List (List UInt8) → Rd ⊕ (Nat × Int)
  | [] => .inl r
  | l :: ls => match lineV r line (wordsV l) with
    | .inl r' => runV r' (line + 1) ls
    | .inr e => .inr (line, e)
def setN (l : List Cmd) (i : Nat) (n : Int) : List Cmd := match l[i]? with | some o => l.set i { o with n := n } | none => l
def goalsV (labels : List (List UInt8 × Nat)) : List Cmd → List (Nat × Nat × List UInt8) → List Cmd ⊕ Nat
  | ops, [] => .inl ops
  | ops, (i, line, w) :: gs => match lookV w labels with
    | some p => goalsV labels (setN ops i p) gs
    | none => .inr line
/-- what Parse answers: instructions, or the line and the error -/
def parseA (s : List UInt8) : List Cmd ⊕ (Nat × Int) :=
  if s.length > 65536 then .inr (0, 3)
  else match runV ⟨[], [], []⟩ 0 (linesV s) with
    | .inr e => .inr e
    | .inl r => match goalsV r.labels r.ops r.goals with
      | .inl l => .inl l
      | .inr line => .inr (line, 9)
end Go.Proofs.YtkkcngppmhebbaaGreatDoor
