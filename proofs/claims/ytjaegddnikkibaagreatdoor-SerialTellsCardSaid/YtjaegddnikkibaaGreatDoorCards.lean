/-
  DERIVED. GIVEN WITH THE SEED: THE CARDS: each row of YtjaegddnikkibaaGreatDoorRows.lean that lists a variable, with what it lists TIED to the program's text (the seventh form; the later family's looks); each row that meets fmt, with fmt's text TOLD by the authors' own Lean function (tested against real Go, not proved from fmt's source: count such statements apart). THE CARD IS WHAT COUNTS. Prove the row's statement (the work); the ties are given (YtjaegddnikkibaaGreatDoorTie.lean); close each card by the builder's one call (the guide's Derived/Test/ToyasCard.lean, 'card_holds'). Laid BY PROGRAM, IN A SANDBOX (cutbox-door.mjs). By AI agents, Wed Nov 11 2026. No macro, syntax, notation, axiom, sorry.
-/
import Derived.Test.YtjaegddnikkibaaGreatDoorRows
import GoSem.ClaimSeven
namespace Go.Proofs.YtjaegddnikkibaaGreatDoor
namespace Rows

/-- THE TIED CARD OF 'turnstilelaw29.SerialTells'. -/
def serialTellsCard : Claim7 := { stood := { row := serialTellsRow, standIns := [], harness := (true, "533a585e603525a59754919c82d9fa0420ce9c00972a116ef35c35899a6a4071"), looks := false }, kinds := [], alts := [], laidByText := true, laidKinds := [.data, .data, .data], laidTests := true, laidLooks := .later }
def SerialTellsCardSaid : Prop := Claim7.holds Tryz.pinned (.plain (OpenSpec.ofChange serialTellsSpec)) serialTellsCard

/-- THE SECOND FORM's CARD OF 'turnstilelaw29.SerialTells'. -/
def serialTellsUptoCard : Claim7 := { stood := { row := serialTellsUptoRow, standIns := [], harness := (true, "533a585e603525a59754919c82d9fa0420ce9c00972a116ef35c35899a6a4071"), looks := false }, kinds := [], alts := [], laidByText := true, laidKinds := [.data, .data, .data], laidTests := true, laidLooks := .later }
def SerialTellsUptoCardSaid : Prop := Claim7.holds Tryz.pinned (.plain (OpenSpec.upto serialTellsSpec)) serialTellsUptoCard
end Rows
end Go.Proofs.YtjaegddnikkibaaGreatDoor
