/-
  DERIVED. GIVEN WITH THE SEED: THE CARDS: each row of YtkklogikakcanaaGreatDoorRows.lean that lists a variable, with what it lists TIED to the program's text (the seventh form; the later family's looks); each row that meets fmt, with fmt's text TOLD by the authors' own Lean function (tested against real Go, not proved from fmt's source: count such statements apart). THE CARD IS WHAT COUNTS. Prove the row's statement (the work); the ties are given (YtkklogikakcanaaGreatDoorTie.lean); close each card by the builder's one call (the guide's Derived/Test/ToyasCard.lean, 'card_holds'). Laid BY PROGRAM, IN A SANDBOX (cutbox-door.mjs). By AI agents, Wed Nov 11 2026. No macro, syntax, notation, axiom, sorry.
-/
import Derived.Test.YtkklogikakcanaaGreatDoorRows
import GoSem.ClaimSeven
namespace Go.Proofs.YtkklogikakcanaaGreatDoor
namespace Rows

/-- THE TIED CARD OF 'turnstilelaw05.TypesChecks'. -/
def typesChecksCard : Claim7 := { stood := { row := typesChecksRow, standIns := [], harness := (true, "ca26c6abf735b4ae139aa062d5e9c58421e694712d93a98c36c3aa30716ac6f9"), looks := true }, kinds := [], alts := [], laidByText := true, laidKinds := [.data, .data, .data, .data], laidTests := true, laidLooks := .later }
def TypesChecksCardSaid : Prop := Claim7.holds Tryz.pinned (.plain (OpenSpec.ofChange typesChecksSpec)) typesChecksCard

/-- THE TIED CARD OF 'turnstilelaw07.ShapeTells'. -/
def shapeTellsCard : Claim7 := { stood := { row := shapeTellsRow, standIns := [], harness := (true, "ca26c6abf735b4ae139aa062d5e9c58421e694712d93a98c36c3aa30716ac6f9"), looks := true }, kinds := [], alts := [], laidByText := true, laidKinds := [.data, .data, .data, .data], laidTests := true, laidLooks := .later }
def ShapeTellsCardSaid : Prop := Claim7.holds Tryz.pinned (.plain (OpenSpec.ofChange shapeTellsSpec)) shapeTellsCard

/-- THE TIED CARD OF 'turnstilelaw06.EffectChecks'. -/
def effectChecksCard : Claim7 := { stood := { row := effectChecksRow, standIns := [], harness := (true, "ca26c6abf735b4ae139aa062d5e9c58421e694712d93a98c36c3aa30716ac6f9"), looks := true }, kinds := [], alts := [], laidByText := true, laidKinds := [.data, .data, .data, .data], laidTests := true, laidLooks := .later }
def EffectChecksCardSaid : Prop := Claim7.holds Tryz.pinned (.plain (OpenSpec.ofChange effectChecksSpec)) effectChecksCard

/-- THE TIED CARD OF 'turnstilelaw06.EffectMore'. -/
def effectMoreCard : Claim7 := { stood := { row := effectMoreRow, standIns := [], harness := (true, "ca26c6abf735b4ae139aa062d5e9c58421e694712d93a98c36c3aa30716ac6f9"), looks := true }, kinds := [], alts := [], laidByText := true, laidKinds := [.data, .data, .data, .data], laidTests := true, laidLooks := .later }
def EffectMoreCardSaid : Prop := Claim7.holds Tryz.pinned (.plain (OpenSpec.ofChange effectMoreSpec)) effectMoreCard

/-- THE SECOND FORM's CARD OF 'turnstilelaw05.TypesChecks'. -/
def typesChecksUptoCard : Claim7 := { stood := { row := typesChecksUptoRow, standIns := [], harness := (true, "ca26c6abf735b4ae139aa062d5e9c58421e694712d93a98c36c3aa30716ac6f9"), looks := true }, kinds := [], alts := [], laidByText := true, laidKinds := [.data, .data, .data, .data], laidTests := true, laidLooks := .later }
def TypesChecksUptoCardSaid : Prop := Claim7.holds Tryz.pinned (.plain (OpenSpec.upto typesChecksSpec)) typesChecksUptoCard

/-- THE SECOND FORM's CARD OF 'turnstilelaw07.ShapeTells'. -/
def shapeTellsUptoCard : Claim7 := { stood := { row := shapeTellsUptoRow, standIns := [], harness := (true, "ca26c6abf735b4ae139aa062d5e9c58421e694712d93a98c36c3aa30716ac6f9"), looks := true }, kinds := [], alts := [], laidByText := true, laidKinds := [.data, .data, .data, .data], laidTests := true, laidLooks := .later }
def ShapeTellsUptoCardSaid : Prop := Claim7.holds Tryz.pinned (.plain (OpenSpec.upto shapeTellsSpec)) shapeTellsUptoCard

/-- THE SECOND FORM's CARD OF 'turnstilelaw06.EffectChecks'. -/
def effectChecksUptoCard : Claim7 := { stood := { row := effectChecksUptoRow, standIns := [], harness := (true, "ca26c6abf735b4ae139aa062d5e9c58421e694712d93a98c36c3aa30716ac6f9"), looks := true }, kinds := [], alts := [], laidByText := true, laidKinds := [.data, .data, .data, .data], laidTests := true, laidLooks := .later }
def EffectChecksUptoCardSaid : Prop := Claim7.holds Tryz.pinned (.plain (OpenSpec.upto effectChecksSpec)) effectChecksUptoCard

/-- THE SECOND FORM's CARD OF 'turnstilelaw06.EffectMore'. -/
def effectMoreUptoCard : Claim7 := { stood := { row := effectMoreUptoRow, standIns := [], harness := (true, "ca26c6abf735b4ae139aa062d5e9c58421e694712d93a98c36c3aa30716ac6f9"), looks := true }, kinds := [], alts := [], laidByText := true, laidKinds := [.data, .data, .data, .data], laidTests := true, laidLooks := .later }
def EffectMoreUptoCardSaid : Prop := Claim7.holds Tryz.pinned (.plain (OpenSpec.upto effectMoreSpec)) effectMoreUptoCard
end Rows
end Go.Proofs.YtkklogikakcanaaGreatDoor
