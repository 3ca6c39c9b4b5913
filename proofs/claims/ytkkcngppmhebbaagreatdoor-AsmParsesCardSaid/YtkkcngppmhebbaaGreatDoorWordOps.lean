/-
  The walks of layer 1's operations: word.Do and the document's Do both return 'doV'.
-/
import Derived.Test.YtkkcngppmhebbaaGreatDoorProg
import Derived.Test.YtkkcngppmhebbaaGreatDoorWordPlain
import Derived.WalkLawsBesides
import Derived.WalkSpells
import Derived.Deep.QuietTactic
import Derived.BigQuiet
set_option linter.unusedVariables false
set_option linter.unusedSimpArgs false
namespace Go.Proofs.YtkkcngppmhebbaaGreatDoor
open Go.RowKit

/-- what the document's inner function answers: the operations of bits, and those that ask -/
def askV (c a b : Int) : Int × Int :=
  if c == 6 then (bits BinOp.and IntKind.i64 a b, 0) else if c == 7 then (bits BinOp.or IntKind.i64 a b, 0) else if c == 8 then (bits BinOp.xor IntKind.i64 a b, 0)
  else if c == 9 then (wrap64 (a * 2 ^ shiftBy b), 0) else if c == 10 then (wrap64 (IntKind.u64.wrap a / 2 ^ shiftBy b), 0)
  else if c == 11 then (if a == b then 1 else 0, 0) else if c == 12 then (if a == b then 0 else 1, 0)
  else if c == 13 then (if a < b then 1 else 0, 0) else if c == 14 then (if b < a then 0 else 1, 0) else (0, 1)

theorem askV_doV (c a b : Int) (h1 : (c == 1) = false) (h2 : (c == 2) = false) (h3 : (c == 3) = false) (h4 : (c == 4) = false) (h5 : (c == 5) = false) : askV c a b = doV c a b := by
  simp [askV, doV, h1, h2, h3, h4, h5]

/-- the cases of the document's quotient -/
theorem quo_least (a b : Int) (ha : a = -9223372036854775808) (hb : b = -1) : wrap64 (a.tdiv b) = a := by
  subst ha hb; exact least_div
theorem mod_least (a b : Int) (ha : a = -9223372036854775808) (hb : b = -1) : a.tmod b = 0 := by
  subst ha hb; exact least_mod

end Go.Proofs.YtkkcngppmhebbaaGreatDoor
