/-
  The plain law of layer 1's operations: what the program's Do and the document's Do compute, as one Lean function on integers. No program in sight.
-/
import Derived.WalkKit
set_option linter.unusedVariables false
set_option linter.unusedSimpArgs false
namespace Go.Proofs.YtkkcngppmhebbaaGreatDoor
open Go.RowKit

/-- how far a shift goes: the lowest six bits -/
def shiftBy (b : Int) : Nat := min (IntKind.u64.wrap (bits BinOp.and IntKind.i64 b 63)).toNat 64

/-- what an operation makes of two numbers, and the error's number -/
def doV (c a b : Int) : Int × Int :=
  if c == 1 then (wrap64 (a + b), 0) else if c == 2 then (wrap64 (a - b), 0) else if c == 3 then (wrap64 (a * b), 0)
  else if c == 4 then (if b == 0 then (0, 4) else (wrap64 (a.tdiv b), 0)) else if c == 5 then (if b == 0 then (0, 4) else (a.tmod b, 0))
  else if c == 6 then (bits BinOp.and IntKind.i64 a b, 0) else if c == 7 then (bits BinOp.or IntKind.i64 a b, 0) else if c == 8 then (bits BinOp.xor IntKind.i64 a b, 0)
  else if c == 9 then (wrap64 (a * 2 ^ shiftBy b), 0) else if c == 10 then (wrap64 (IntKind.u64.wrap a / 2 ^ shiftBy b), 0)
  else if c == 11 then (if a == b then 1 else 0, 0) else if c == 12 then (if a == b then 0 else 1, 0)
  else if c == 13 then (if a < b then 1 else 0, 0) else if c == 14 then (if b < a then 0 else 1, 0) else (0, 1)

theorem u64_add (a b : Int) : wrap64 (IntKind.u64.wrap (IntKind.u64.wrap a + IntKind.u64.wrap b)) = wrap64 (a + b) := by
  simp only [IntKind.wrap_u64, wrap64]; omega
theorem u64_sub (a b : Int) : wrap64 (IntKind.u64.wrap (IntKind.u64.wrap a - IntKind.u64.wrap b)) = wrap64 (a - b) := by
  simp only [IntKind.wrap_u64, wrap64]; omega
theorem wrap64_emod {x y : Int} (h : x % 18446744073709551616 = y % 18446744073709551616) : wrap64 x = wrap64 y := by
  unfold wrap64; omega
theorem u64_mul (a b : Int) : wrap64 (IntKind.u64.wrap (IntKind.u64.wrap a * IntKind.u64.wrap b)) = wrap64 (a * b) := by
  refine wrap64_emod ?_
  simp only [IntKind.wrap_u64, Int.emod_emod, Int.mul_emod]
theorem u64_shl (a : Int) (n : Nat) : wrap64 (IntKind.u64.wrap (IntKind.u64.wrap a * 2 ^ n)) = wrap64 (a * 2 ^ n) := by
  refine wrap64_emod ?_
  simp only [IntKind.wrap_u64, Int.emod_emod, Int.mul_emod]
theorem least_div : wrap64 ((-9223372036854775808 : Int).tdiv (-1)) = -9223372036854775808 := by decide +kernel
theorem least_wrap : wrap64 9223372036854775808 = -9223372036854775808 := by decide +kernel
theorem least_mod : (-9223372036854775808 : Int).tmod (-1) = 0 := by decide +kernel
end Go.Proofs.YtkkcngppmhebbaaGreatDoor
