/-
  DERIVED. GIVEN WITH THE SEED: THE CARDS: each row of YtkkcngppmhebbaaDoorRows.lean that lists a variable, with what it lists TIED to the program's text (the seventh form; the later family's looks); each row that meets fmt, with fmt's text TOLD by the authors' own Lean function (tested against real Go, not proved from fmt's source: count such statements apart). THE CARD IS WHAT COUNTS. Prove the row's statement (the work); the ties are given (YtkkcngppmhebbaaDoorTie.lean); close each card by the builder's one call (the guide's Derived/Test/ToyasCard.lean, 'card_holds'). Laid BY PROGRAM, IN A SANDBOX (cutbox-door.mjs). By AI agents, Wed Nov 11 2026. No macro, syntax, notation, axiom, sorry.
-/
import Derived.Test.YtkkcngppmhebbaaDoorRows
import GoSem.ClaimSeven
namespace Go.Proofs.YtkkcngppmhebbaaDoor
namespace Rows

/-- THE TIED CARD OF 'turnstilelaw18.AsmTexts'. -/
def asmTextsCard : Claim7 := { stood := { row := asmTextsRow, standIns := [], harness := (true, "2549a608bc20a5e00ec069f635babdc60411f8e80d1a1a8a1e1d5a36f5f3d9b4"), looks := true }, kinds := [], alts := [], laidByText := true, laidKinds := [.data, .data, .data, .data, .sentinel, .sentinel, .listed, .data, .pinned], laidTests := true, laidLooks := .later }
def AsmTextsCardSaid : Prop := Claim7.holds Tryd.pinned (.plain (OpenSpec.ofChange asmTextsSpec)) asmTextsCard

/-- THE TIED CARD OF 'turnstilelaw18.AsmBack'. -/
def asmBackCard : Claim7 := { stood := { row := asmBackRow, standIns := [], harness := (true, "2549a608bc20a5e00ec069f635babdc60411f8e80d1a1a8a1e1d5a36f5f3d9b4"), looks := true }, kinds := [], alts := [], laidByText := true, laidKinds := [.data, .data, .data, .data, .sentinel, .sentinel, .listed, .data, .pinned], laidTests := true, laidLooks := .later }
def AsmBackCardSaid : Prop := Claim7.holds Tryd.pinned (.plain (OpenSpec.ofChange asmBackSpec)) asmBackCard

/-- THE TIED CARD OF 'turnstilelaw18.AsmSpread'. -/
def asmSpreadCard : Claim7 := { stood := { row := asmSpreadRow, standIns := [], harness := (true, "2549a608bc20a5e00ec069f635babdc60411f8e80d1a1a8a1e1d5a36f5f3d9b4"), looks := true }, kinds := [], alts := [], laidByText := true, laidKinds := [.data, .data, .data, .data, .sentinel, .sentinel, .listed, .data, .pinned], laidTests := true, laidLooks := .later }
def AsmSpreadCardSaid : Prop := Claim7.holds Tryd.pinned (.plain (OpenSpec.ofChange asmSpreadSpec)) asmSpreadCard

/-- THE SECOND FORM's CARD OF 'turnstilelaw18.AsmTexts'. -/
def asmTextsUptoCard : Claim7 := { stood := { row := asmTextsUptoRow, standIns := [], harness := (true, "2549a608bc20a5e00ec069f635babdc60411f8e80d1a1a8a1e1d5a36f5f3d9b4"), looks := true }, kinds := [], alts := [], laidByText := true, laidKinds := [.data, .data, .data, .data, .sentinel, .sentinel, .listed, .data, .pinned], laidTests := true, laidLooks := .later }
def AsmTextsUptoCardSaid : Prop := Claim7.holds Tryd.pinned (.plain (OpenSpec.upto asmTextsSpec)) asmTextsUptoCard

/-- THE SECOND FORM's CARD OF 'turnstilelaw18.AsmBack'. -/
def asmBackUptoCard : Claim7 := { stood := { row := asmBackUptoRow, standIns := [], harness := (true, "2549a608bc20a5e00ec069f635babdc60411f8e80d1a1a8a1e1d5a36f5f3d9b4"), looks := true }, kinds := [], alts := [], laidByText := true, laidKinds := [.data, .data, .data, .data, .sentinel, .sentinel, .listed, .data, .pinned], laidTests := true, laidLooks := .later }
def AsmBackUptoCardSaid : Prop := Claim7.holds Tryd.pinned (.plain (OpenSpec.upto asmBackSpec)) asmBackUptoCard

/-- THE SECOND FORM's CARD OF 'turnstilelaw18.AsmSpread'. -/
def asmSpreadUptoCard : Claim7 := { stood := { row := asmSpreadUptoRow, standIns := [], harness := (true, "2549a608bc20a5e00ec069f635babdc60411f8e80d1a1a8a1e1d5a36f5f3d9b4"), looks := true }, kinds := [], alts := [], laidByText := true, laidKinds := [.data, .data, .data, .data, .sentinel, .sentinel, .listed, .data, .pinned], laidTests := true, laidLooks := .later }
def AsmSpreadUptoCardSaid : Prop := Claim7.holds Tryd.pinned (.plain (OpenSpec.upto asmSpreadSpec)) asmSpreadUptoCard
end Rows
end Go.Proofs.YtkkcngppmhebbaaDoor
