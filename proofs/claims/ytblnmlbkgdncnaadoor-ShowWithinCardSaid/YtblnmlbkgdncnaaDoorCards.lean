/-
  DERIVED. GIVEN WITH THE SEED: THE CARDS: each row of YtblnmlbkgdncnaaDoorRows.lean that lists a variable, with what it lists TIED to the program's text (the seventh form; the later family's looks); each row that meets fmt, with fmt's text TOLD by the authors' own Lean function (tested against real Go, not proved from fmt's source: count such statements apart). THE CARD IS WHAT COUNTS. Prove the row's statement (the work); the ties are given (YtblnmlbkgdncnaaDoorTie.lean); close each card by the builder's one call (the guide's Derived/Test/ToyasCard.lean, 'card_holds'). Laid BY PROGRAM, IN A SANDBOX (cutbox-door.mjs). By AI agents, Wed Nov 11 2026. No macro, syntax, notation, axiom, sorry.
-/
import Derived.Test.YtblnmlbkgdncnaaDoorRows
import GoSem.ClaimSeven
namespace Go.Proofs.YtblnmlbkgdncnaaDoor
namespace Rows

/-- THE TIED CARD OF 'turnstilelaw03.ShowTypes'. -/
def showTypesCard : Claim7 := { stood := { row := showTypesRow, standIns := [], harness := (true, "fc856ea6af46fac52b3080549b87220687fc26cac9c62183d7e25d212803a859"), looks := true }, kinds := [], alts := [], laidByText := true, laidKinds := [.data, .data, .data], laidTests := true, laidLooks := .later }
def ShowTypesCardSaid : Prop := Claim7.holds Tryd.pinned (.plain (OpenSpec.ofChange showTypesSpec)) showTypesCard

/-- THE TIED CARD OF 'turnstilelaw03.ShowWithin'. -/
def showWithinCard : Claim7 := { stood := { row := showWithinRow, standIns := [], harness := (true, "fc856ea6af46fac52b3080549b87220687fc26cac9c62183d7e25d212803a859"), looks := true }, kinds := [], alts := [], laidByText := true, laidKinds := [.data, .data, .data], laidTests := true, laidLooks := .later }
def ShowWithinCardSaid : Prop := Claim7.holds Tryd.pinned (.plain (OpenSpec.ofChange showWithinSpec)) showWithinCard

/-- THE SECOND FORM's CARD OF 'turnstilelaw03.ShowTypes'. -/
def showTypesUptoCard : Claim7 := { stood := { row := showTypesUptoRow, standIns := [], harness := (true, "fc856ea6af46fac52b3080549b87220687fc26cac9c62183d7e25d212803a859"), looks := true }, kinds := [], alts := [], laidByText := true, laidKinds := [.data, .data, .data], laidTests := true, laidLooks := .later }
def ShowTypesUptoCardSaid : Prop := Claim7.holds Tryd.pinned (.plain (OpenSpec.upto showTypesSpec)) showTypesUptoCard

/-- THE SECOND FORM's CARD OF 'turnstilelaw03.ShowWithin'. -/
def showWithinUptoCard : Claim7 := { stood := { row := showWithinUptoRow, standIns := [], harness := (true, "fc856ea6af46fac52b3080549b87220687fc26cac9c62183d7e25d212803a859"), looks := true }, kinds := [], alts := [], laidByText := true, laidKinds := [.data, .data, .data], laidTests := true, laidLooks := .later }
def ShowWithinUptoCardSaid : Prop := Claim7.holds Tryd.pinned (.plain (OpenSpec.upto showWithinSpec)) showWithinUptoCard
end Rows
end Go.Proofs.YtblnmlbkgdncnaaDoor
