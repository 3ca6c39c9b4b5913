/-
  A world that holds what the row lists of the library's tables, for the witness.
-/
import Derived.Test.YtjaegddnikkibaaGreatDoorRows
import Derived.WalkKit
import Derived.Deep.DeepWitnessRowRef
import Derived.Deep.DeepLaidRun
import Derived.MakeChecks
set_option linter.unusedVariables false
set_option linter.unusedSimpArgs false
namespace Go.Proofs.YtjaegddnikkibaaGreatDoor
open Go.RowKit

def intsOf {H : Type} (d : DataW H) : Array Value :=
  match d with
  | .agg l => (l.map fun x => match x with | .lit (.int k n) => Value.int k n | _ => Value.nilIface).toArray
  | _ => #[]
def put (g : Nat) (cs : Array Value) (h : Array Obj) : Array Obj := h.modify g fun
  | .cells _ t frozen => .cells cs t frozen
  | o => o
noncomputable def laidWorld (os : Os) : World :=
  let w0 := World.holding Tryz.prog os ⟨#[], #[], []⟩
  { w0 with heap := put 0 (intsOf (H := Unit) Rows.laid_internal_strconv_uint64pow10) (put 1 (intsOf (H := Unit) Rows.laid_math_bits_deBruijn32tab)
      (put 2 (intsOf (H := Unit) Rows.laid_math_bits_deBruijn64tab) w0.heap)) }
theorem laid_met (os : Os) (args : Array Value) : laidMetH Tryz.prog Rows.serialTellsRow.laid ((laidWorld os).forCall (fun _ _ => 0) ⟨#[], args, []⟩).memory := by
  rw [MakeChecks.laidMetH_plain _ _ _ (by kernel_rfl)]
  exact laidMet_of_run3 8 (by kernel_rfl) (by kernel_rfl) (by kernel_rfl)
end Go.Proofs.YtjaegddnikkibaaGreatDoor
