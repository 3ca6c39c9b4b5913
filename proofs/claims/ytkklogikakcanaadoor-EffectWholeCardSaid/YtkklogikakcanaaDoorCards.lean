/-
  DERIVED. GIVEN WITH THE SEED: THE CARDS: each row of YtkklogikakcanaaDoorRows.lean that lists a variable, with what it lists TIED to the program's text (the seventh form; the later family's looks); each row that meets fmt, with fmt's text TOLD by the authors' own Lean function (tested against real Go, not proved from fmt's source: count such statements apart). THE CARD IS WHAT COUNTS. Prove the row's statement (the work); the ties are given (YtkklogikakcanaaDoorTie.lean); close each card by the builder's one call (the guide's Derived/Test/ToyasCard.lean, 'card_holds'). Laid BY PROGRAM, IN A SANDBOX (cutbox-door.mjs). By AI agents, Wed Nov 11 2026. No macro, syntax, notation, axiom, sorry.
-/
import Derived.Test.YtkklogikakcanaaDoorRows
import GoSem.ClaimSeven
namespace Go.Proofs.YtkklogikakcanaaDoor
namespace Rows

/-- THE TIED CARD OF 'turnstilelaw06.EffectWhole'. -/
def effectWholeCard : Claim7 := { stood := { row := effectWholeRow, standIns := [], harness := (true, "4cf851d8b515f8dac38be33ef97239d15ab0fd06a0bf99d752f667e09cbef013"), looks := true }, kinds := [], alts := [], laidByText := true, laidKinds := [.data], laidTests := true, laidLooks := .later }
def EffectWholeCardSaid : Prop := Claim7.holds Tryd.pinned (.plain (OpenSpec.ofChange effectWholeSpec)) effectWholeCard

/-- THE TIED CARD OF 'turnstilelaw05.TypesLess'. -/
def typesLessCard : Claim7 := { stood := { row := typesLessRow, standIns := [], harness := (true, "4cf851d8b515f8dac38be33ef97239d15ab0fd06a0bf99d752f667e09cbef013"), looks := true }, kinds := [], alts := [], laidByText := true, laidKinds := [.data, .data, .data, .data], laidTests := true, laidLooks := .later }
def TypesLessCardSaid : Prop := Claim7.holds Tryd.pinned (.plain (OpenSpec.ofChange typesLessSpec)) typesLessCard

/-- THE TIED CARD OF 'turnstilelaw05.TypesFirst'. -/
def typesFirstCard : Claim7 := { stood := { row := typesFirstRow, standIns := [], harness := (true, "4cf851d8b515f8dac38be33ef97239d15ab0fd06a0bf99d752f667e09cbef013"), looks := true }, kinds := [], alts := [], laidByText := true, laidKinds := [.data, .data, .data, .data], laidTests := true, laidLooks := .later }
def TypesFirstCardSaid : Prop := Claim7.holds Tryd.pinned (.plain (OpenSpec.ofChange typesFirstSpec)) typesFirstCard

/-- THE TIED CARD OF 'turnstilelaw07.ShapeWhole'. -/
def shapeWholeCard : Claim7 := { stood := { row := shapeWholeRow, standIns := [], harness := (true, "4cf851d8b515f8dac38be33ef97239d15ab0fd06a0bf99d752f667e09cbef013"), looks := true }, kinds := [], alts := [], laidByText := true, laidKinds := [.data, .data, .data, .data], laidTests := true, laidLooks := .later }
def ShapeWholeCardSaid : Prop := Claim7.holds Tryd.pinned (.plain (OpenSpec.ofChange shapeWholeSpec)) shapeWholeCard

/-- THE SECOND FORM's CARD OF 'turnstilelaw06.EffectWhole'. -/
def effectWholeUptoCard : Claim7 := { stood := { row := effectWholeUptoRow, standIns := [], harness := (true, "4cf851d8b515f8dac38be33ef97239d15ab0fd06a0bf99d752f667e09cbef013"), looks := true }, kinds := [], alts := [], laidByText := true, laidKinds := [.data], laidTests := true, laidLooks := .later }
def EffectWholeUptoCardSaid : Prop := Claim7.holds Tryd.pinned (.plain (OpenSpec.upto effectWholeSpec)) effectWholeUptoCard

/-- THE SECOND FORM's CARD OF 'turnstilelaw05.TypesLess'. -/
def typesLessUptoCard : Claim7 := { stood := { row := typesLessUptoRow, standIns := [], harness := (true, "4cf851d8b515f8dac38be33ef97239d15ab0fd06a0bf99d752f667e09cbef013"), looks := true }, kinds := [], alts := [], laidByText := true, laidKinds := [.data, .data, .data, .data], laidTests := true, laidLooks := .later }
def TypesLessUptoCardSaid : Prop := Claim7.holds Tryd.pinned (.plain (OpenSpec.upto typesLessSpec)) typesLessUptoCard

/-- THE SECOND FORM's CARD OF 'turnstilelaw05.TypesFirst'. -/
def typesFirstUptoCard : Claim7 := { stood := { row := typesFirstUptoRow, standIns := [], harness := (true, "4cf851d8b515f8dac38be33ef97239d15ab0fd06a0bf99d752f667e09cbef013"), looks := true }, kinds := [], alts := [], laidByText := true, laidKinds := [.data, .data, .data, .data], laidTests := true, laidLooks := .later }
def TypesFirstUptoCardSaid : Prop := Claim7.holds Tryd.pinned (.plain (OpenSpec.upto typesFirstSpec)) typesFirstUptoCard

/-- THE SECOND FORM's CARD OF 'turnstilelaw07.ShapeWhole'. -/
def shapeWholeUptoCard : Claim7 := { stood := { row := shapeWholeUptoRow, standIns := [], harness := (true, "4cf851d8b515f8dac38be33ef97239d15ab0fd06a0bf99d752f667e09cbef013"), looks := true }, kinds := [], alts := [], laidByText := true, laidKinds := [.data, .data, .data, .data], laidTests := true, laidLooks := .later }
def ShapeWholeUptoCardSaid : Prop := Claim7.holds Tryd.pinned (.plain (OpenSpec.upto shapeWholeSpec)) shapeWholeUptoCard
end Rows
end Go.Proofs.YtkklogikakcanaaDoor
