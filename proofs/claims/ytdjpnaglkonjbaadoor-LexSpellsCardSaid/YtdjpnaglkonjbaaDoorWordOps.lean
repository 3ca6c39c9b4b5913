/-
  The walks of layer 1's operations: word.Do and the document's Do both return 'doV'.
-/
import Derived.Test.YtdjpnaglkonjbaaDoorProg
import Derived.Test.YtdjpnaglkonjbaaDoorWordPlain
import Derived.WalkLawsBesides
import Derived.WalkSpells
import Derived.Deep.QuietTactic
import Derived.BigQuiet
namespace Go.Proofs.YtdjpnaglkonjbaaDoor
open Go.RowKit

set_option maxHeartbeats 400000 in
theorem truth_any (b : Bool) (w : World) : Calls Tryd.prog 31 #[.bool b] w fun e w' => e = .returned (.int .i64 (if b then 1 else 0)) ∧ w = w' := by
  cases b
  all_goals
    go_enter Tryd.func31, Tryd.ntmps31
    go_wp2
    go_ret
    exact ⟨rfl, rfl⟩

set_option maxHeartbeats 400000 in
theorem rtruth_any (b : Bool) (w : World) : Calls Tryd.prog 42 #[.bool b] w fun e w' => e = .returned (.int .i64 (if b then 1 else 0)) ∧ w = w' := by
  cases b
  all_goals
    go_enter Tryd.func42, Tryd.ntmps42
    go_wp2
    go_ret
    exact ⟨rfl, rfl⟩

set_option maxHeartbeats 1000000 in
theorem do_any (c a b : Int) (w : World) : Calls Tryd.prog 12 #[.int .u8 c, .int .i64 a, .int .i64 b] w fun e w' => e = .returned (.tuple #[.int .i64 (doV c a b).1, .int .i64 (doV c a b).2]) ∧ w = w' := by
  go_enter Tryd.func12, Tryd.ntmps12
  go_wp2_with (go_at_call 31; refine (truth_any _ _).mono ?_; rintro e w' ⟨rfl, rfl⟩)
  all_goals (try (exfalso; simp_all; done))
  all_goals go_ret2
  all_goals go_tidy
  all_goals (refine ⟨?_, rfl⟩; simp only [doV, shiftBy, Ending.returned.injEq, Value.tuple.injEq]; simp_all)

/-- what the document's inner function answers: the operations of bits, and those that ask -/
def askV (c a b : Int) : Int × Int :=
  if c == 6 then (bits BinOp.and IntKind.i64 a b, 0) else if c == 7 then (bits BinOp.or IntKind.i64 a b, 0) else if c == 8 then (bits BinOp.xor IntKind.i64 a b, 0)
  else if c == 9 then (wrap64 (a * 2 ^ shiftBy b), 0) else if c == 10 then (wrap64 (IntKind.u64.wrap a / 2 ^ shiftBy b), 0)
  else if c == 11 then (if a == b then 1 else 0, 0) else if c == 12 then (if a == b then 0 else 1, 0)
  else if c == 13 then (if a < b then 1 else 0, 0) else if c == 14 then (if b < a then 0 else 1, 0) else (0, 1)

set_option maxHeartbeats 1000000 in
theorem asked_any (c a b : Int) (w : World) : Calls Tryd.prog 32 #[.int .u8 c, .int .i64 a, .int .i64 b] w fun e w' => e = .returned (.tuple #[.int .i64 (askV c a b).1, .int .i64 (askV c a b).2]) ∧ w = w' := by
  go_enter Tryd.func32, Tryd.ntmps32
  go_wp2_with (go_at_call 42; refine (rtruth_any _ _).mono ?_; rintro e w' ⟨rfl, rfl⟩)
  all_goals (try (exfalso; simp_all; done))
  all_goals go_ret2
  all_goals go_tidy
  all_goals (refine ⟨?_, rfl⟩; simp only [askV, shiftBy, Ending.returned.injEq, Value.tuple.injEq]; simp_all [u64_shl])

theorem askV_doV (c a b : Int) (h1 : (c == 1) = false) (h2 : (c == 2) = false) (h3 : (c == 3) = false) (h4 : (c == 4) = false) (h5 : (c == 5) = false) : askV c a b = doV c a b := by
  simp [askV, doV, h1, h2, h3, h4, h5]

/-- the cases of the document's quotient -/
theorem quo_least (a b : Int) (ha : a = -9223372036854775808) (hb : b = -1) : wrap64 (a.tdiv b) = a := by
  subst ha hb; exact least_div
theorem mod_least (a b : Int) (ha : a = -9223372036854775808) (hb : b = -1) : a.tmod b = 0 := by
  subst ha hb; exact least_mod

set_option maxHeartbeats 1000000 in
theorem rdo_any (c a b : Int) (w : World) : Calls Tryd.prog 13 #[.int .u8 c, .int .i64 a, .int .i64 b] w fun e w' => e = .returned (.tuple #[.int .i64 (doV c a b).1, .int .i64 (doV c a b).2]) ∧ w = w' := by
  go_enter Tryd.func13, Tryd.ntmps13
  go_wp2_with (go_at_call 32; refine (asked_any _ _ _ _).mono ?_; rintro e w' ⟨rfl, rfl⟩)
  all_goals (try (exfalso; simp_all; done))
  all_goals go_ret2
  all_goals go_tidy
  all_goals (refine ⟨?_, rfl⟩; simp only [Ending.returned.injEq, Value.tuple.injEq])
  all_goals first
    | (rw [askV_doV _ _ _ ‹_› ‹_› ‹_› ‹_› ‹_›]; rfl)
    | (simp only [doV, shiftBy]; simp_all [u64_add, u64_sub, u64_mul, least_wrap]; done)
    | (simp only [doV, shiftBy]; simp_all; exact (Int.tmod_eq_emod_of_nonneg (by decide)).symm)
end Go.Proofs.YtdjpnaglkonjbaaDoor
