/-
  No cell of these rows narrows 'for every input' (looked for: loops, veiled, ifaces, maps, wideKeys, modest, calm, conditions, laid).
  DERIVED. THE GIVEN ROWS OF THIS SEAT. 7 by the template 'for every input the law returns true; each argument reads behind the call as it read before'; 0 by the template 'total and deterministic' (their statements: YtjaegddnikkibaaTotals.lean).
  GIVEN WITH THE SEED: the statements are not yours to turn. If you find one false, say at which input.
  Laid BY PROGRAM, IN A SANDBOX (cutbox-rows.mjs): the forced cells as the released guide's own fill.sh prints them over the translation 3f8766c69f21bb9e… (all of the seat's roots in one cut). By AI agents, Wed Nov 11 2026. No macro, syntax, notation, axiom, sorry.
-/
import Derived.Test.YtjaegddnikkibaaChecked
import GoSem.Claim
import GoSem.ClaimJoined
import GoSem.ClaimMapViews
import Derived.JoinedTies
import Derived.KernelRfl
namespace Go.Proofs.Ytjaegddnikkibaa
/- THE CELL 'sum', in the pinned program and in every row, IS THE sha256 OF THE DUMP (.gsa) THAT YtjaegddnikkibaaProg.lean LOADS. Nothing in Lean hashes anything: it is a label: what it is worth is what the hold of that sum in a sandbox is worth. -/
noncomputable def Try.pinned : Pinned := { name := "ytjaegddnikkibaa", sum := "3f8766c69f21bb9eaff5b2d1288b6445ff7a2b62e0e79a7068d0bd835b2efd9b", checked := Try.checked }
namespace Rows
def none {H : Type} : Left H := { results := [], args := [] }

/-- 'turnstilelaw29.SerialReads': WHATEVER THE INPUT: true; the input reads as it did. -/
def serialReadsSpec : ChangeSpec := { name := "serialReads", fn := fun _ => fun
  | [d] => { results := [.lit (.bool true)], args := [d] }
  | _ => none }
def serialReadsRow : OpenClaim := { program := "ytjaegddnikkibaa", sum := "3f8766c69f21bb9eaff5b2d1288b6445ff7a2b62e0e79a7068d0bd835b2efd9b", func := "turnstile/turnstilelaw29.SerialReads", spec := "serialReads", unfollowed := true, recurses := true, apart := false }
def SerialReadsSaid : Prop := serialReadsRow.holds Try.pinned (OpenSpec.ofChange serialReadsSpec)

/-- ITS FALSE NEIGHBOUR: 'it returns false'. Refute it at one input. -/
def serialReadsWrong : ChangeSpec := { name := "serialReads", fn := fun _ => fun
  | [d] => { results := [.lit (.bool false)], args := [d] }
  | _ => none }
def SerialReadsWrongFalsely : Prop := serialReadsRow.holds Try.pinned (OpenSpec.ofChange serialReadsWrong)

/-- 'turnstilelaw30.OpaqueTells': WHATEVER THE INPUT: true; the input reads as it did. -/
def opaqueTellsSpec : ChangeSpec := { name := "opaqueTells", fn := fun _ => fun
  | [d] => { results := [.lit (.bool true)], args := [d] }
  | _ => none }
def opaqueTellsRow : OpenClaim := { program := "ytjaegddnikkibaa", sum := "3f8766c69f21bb9eaff5b2d1288b6445ff7a2b62e0e79a7068d0bd835b2efd9b", func := "turnstile/turnstilelaw30.OpaqueTells", spec := "opaqueTells", unfollowed := true, recurses := true, apart := false }
def OpaqueTellsSaid : Prop := opaqueTellsRow.holds Try.pinned (OpenSpec.ofChange opaqueTellsSpec)

/-- ITS FALSE NEIGHBOUR: 'it returns false'. Refute it at one input. -/
def opaqueTellsWrong : ChangeSpec := { name := "opaqueTells", fn := fun _ => fun
  | [d] => { results := [.lit (.bool false)], args := [d] }
  | _ => none }
def OpaqueTellsWrongFalsely : Prop := opaqueTellsRow.holds Try.pinned (OpenSpec.ofChange opaqueTellsWrong)

/-- 'turnstilelaw30.OpaqueLess': WHATEVER THE INPUT: true; the input reads as it did. -/
def opaqueLessSpec : ChangeSpec := { name := "opaqueLess", fn := fun _ => fun
  | [d1, d2] => { results := [.lit (.bool true)], args := [d1, d2] }
  | _ => none }
def opaqueLessRow : OpenClaim := { program := "ytjaegddnikkibaa", sum := "3f8766c69f21bb9eaff5b2d1288b6445ff7a2b62e0e79a7068d0bd835b2efd9b", func := "turnstile/turnstilelaw30.OpaqueLess", spec := "opaqueLess", unfollowed := true, recurses := true, apart := false }
def OpaqueLessSaid : Prop := opaqueLessRow.holds Try.pinned (OpenSpec.ofChange opaqueLessSpec)

/-- ITS FALSE NEIGHBOUR: 'it returns false'. Refute it at one input. -/
def opaqueLessWrong : ChangeSpec := { name := "opaqueLess", fn := fun _ => fun
  | [d1, d2] => { results := [.lit (.bool false)], args := [d1, d2] }
  | _ => none }
def OpaqueLessWrongFalsely : Prop := opaqueLessRow.holds Try.pinned (OpenSpec.ofChange opaqueLessWrong)

/-- 'turnstilelaw30.OpaqueNames': WHATEVER THE INPUT: true; the input reads as it did. -/
def opaqueNamesSpec : ChangeSpec := { name := "opaqueNames", fn := fun _ => fun
  | [] => { results := [.lit (.bool true)], args := [] }
  | _ => none }
def opaqueNamesRow : OpenClaim := { program := "ytjaegddnikkibaa", sum := "3f8766c69f21bb9eaff5b2d1288b6445ff7a2b62e0e79a7068d0bd835b2efd9b", func := "turnstile/turnstilelaw30.OpaqueNames", spec := "opaqueNames", unfollowed := true, recurses := true, apart := false }
def OpaqueNamesSaid : Prop := opaqueNamesRow.holds Try.pinned (OpenSpec.ofChange opaqueNamesSpec)

/-- ITS FALSE NEIGHBOUR: 'it returns false'. Refute it at one input. -/
def opaqueNamesWrong : ChangeSpec := { name := "opaqueNames", fn := fun _ => fun
  | [] => { results := [.lit (.bool false)], args := [] }
  | _ => none }
def OpaqueNamesWrongFalsely : Prop := opaqueNamesRow.holds Try.pinned (OpenSpec.ofChange opaqueNamesWrong)

/-- 'turnstilelaw30.OpaqueFirst': WHATEVER THE INPUT: true; the input reads as it did. -/
def opaqueFirstSpec : ChangeSpec := { name := "opaqueFirst", fn := fun _ => fun
  | [d] => { results := [.lit (.bool true)], args := [d] }
  | _ => none }
def opaqueFirstRow : OpenClaim := { program := "ytjaegddnikkibaa", sum := "3f8766c69f21bb9eaff5b2d1288b6445ff7a2b62e0e79a7068d0bd835b2efd9b", func := "turnstile/turnstilelaw30.OpaqueFirst", spec := "opaqueFirst", unfollowed := true, recurses := true, apart := false }
def OpaqueFirstSaid : Prop := opaqueFirstRow.holds Try.pinned (OpenSpec.ofChange opaqueFirstSpec)

/-- ITS FALSE NEIGHBOUR: 'it returns false'. Refute it at one input. -/
def opaqueFirstWrong : ChangeSpec := { name := "opaqueFirst", fn := fun _ => fun
  | [d] => { results := [.lit (.bool false)], args := [d] }
  | _ => none }
def OpaqueFirstWrongFalsely : Prop := opaqueFirstRow.holds Try.pinned (OpenSpec.ofChange opaqueFirstWrong)

/-- 'turnstilelaw29.SerialSorts': WHATEVER THE INPUT: true; the input reads as it did. -/
def serialSortsSpec : ChangeSpec := { name := "serialSorts", fn := fun _ => fun
  | [d] => { results := [.lit (.bool true)], args := [d] }
  | _ => none }
def serialSortsRow : OpenClaim := { program := "ytjaegddnikkibaa", sum := "3f8766c69f21bb9eaff5b2d1288b6445ff7a2b62e0e79a7068d0bd835b2efd9b", func := "turnstile/turnstilelaw29.SerialSorts", spec := "serialSorts", unfollowed := true, recurses := true, apart := false }
def SerialSortsSaid : Prop := serialSortsRow.holds Try.pinned (OpenSpec.ofChange serialSortsSpec)

/-- ITS FALSE NEIGHBOUR: 'it returns false'. Refute it at one input. -/
def serialSortsWrong : ChangeSpec := { name := "serialSorts", fn := fun _ => fun
  | [d] => { results := [.lit (.bool false)], args := [d] }
  | _ => none }
def SerialSortsWrongFalsely : Prop := serialSortsRow.holds Try.pinned (OpenSpec.ofChange serialSortsWrong)

/-- 'turnstilelaw29.SerialNames': WHATEVER THE INPUT: true; the input reads as it did. -/
def serialNamesSpec : ChangeSpec := { name := "serialNames", fn := fun _ => fun
  | [] => { results := [.lit (.bool true)], args := [] }
  | _ => none }
def serialNamesRow : OpenClaim := { program := "ytjaegddnikkibaa", sum := "3f8766c69f21bb9eaff5b2d1288b6445ff7a2b62e0e79a7068d0bd835b2efd9b", func := "turnstile/turnstilelaw29.SerialNames", spec := "serialNames", unfollowed := true, recurses := true, apart := false }
def SerialNamesSaid : Prop := serialNamesRow.holds Try.pinned (OpenSpec.ofChange serialNamesSpec)

/-- ITS FALSE NEIGHBOUR: 'it returns false'. Refute it at one input. -/
def serialNamesWrong : ChangeSpec := { name := "serialNames", fn := fun _ => fun
  | [] => { results := [.lit (.bool false)], args := [] }
  | _ => none }
def SerialNamesWrongFalsely : Prop := serialNamesRow.holds Try.pinned (OpenSpec.ofChange serialNamesWrong)

/- THE SECOND FORM. 'bulk': how many values and letters a reading holds, each counted each time it is reached (what is shared counts as often as it is met; a slice's spare places count too). A statement '..UptoSaid' is the law's where the arguments, and the package variables that the reading takes, are together of bulk at most 1048576: NARROWER than '..Said'. Prove '..Said' where nothing that the law and all that it calls make is longer than what came in: it says more and counts as full. Else prove '..UptoSaid'. A law counts once. -/
mutual
def uptoBulk {H : Type} : DataW H → Nat
  | .lit (.string bytes) => bytes.length + 1
  | .lit _ => 1
  | .nil => 1
  | .ptr d => uptoBulk d + 1
  | .slice elems spare => uptoBulkAll elems + uptoBulkAll spare + 1
  | .agg parts => uptoBulkAll parts + 1
  | .iface _ d => uptoBulk d + 1
  | .map entries => uptoBulkEntries entries + 1
  | .held _ => 1
def uptoBulkAll {H : Type} : List (DataW H) → Nat
  | [] => 0
  | d :: r => uptoBulk d + uptoBulkAll r
def uptoBulkEntries {H : Type} : List (Lit × DataW H) → Nat
  | [] => 0
  | x :: r => uptoBulkEntry x + uptoBulkEntries r
def uptoBulkEntry {H : Type} : Lit × DataW H → Nat
  | (.string bytes, d) => bytes.length + uptoBulk d + 1
  | (_, d) => uptoBulk d + 1
 end
def uptoSmall : (H : Type) → List (DataW H) → Bool := fun _ ds => decide (uptoBulkAll ds ≤ 1048576)
def OpenSpec.upto (s : _root_.Go.ChangeSpec) : _root_.Go.OpenSpec := { _root_.Go.OpenSpec.ofChange s with cond := some uptoSmall }

/-- 'turnstilelaw29.SerialReads', WHERE WHAT IT READS IS OF BULK AT MOST 1048576: true; the input reads as it did. -/
def serialReadsUptoRow : OpenClaim := { program := "ytjaegddnikkibaa", sum := "3f8766c69f21bb9eaff5b2d1288b6445ff7a2b62e0e79a7068d0bd835b2efd9b", func := "turnstile/turnstilelaw29.SerialReads", spec := "serialReads", unfollowed := true, recurses := true, apart := false, narrowed := true }
def SerialReadsUptoSaid : Prop := serialReadsUptoRow.holds Try.pinned (OpenSpec.upto serialReadsSpec)

/-- 'turnstilelaw30.OpaqueTells', WHERE WHAT IT READS IS OF BULK AT MOST 1048576: true; the input reads as it did. -/
def opaqueTellsUptoRow : OpenClaim := { program := "ytjaegddnikkibaa", sum := "3f8766c69f21bb9eaff5b2d1288b6445ff7a2b62e0e79a7068d0bd835b2efd9b", func := "turnstile/turnstilelaw30.OpaqueTells", spec := "opaqueTells", unfollowed := true, recurses := true, apart := false, narrowed := true }
def OpaqueTellsUptoSaid : Prop := opaqueTellsUptoRow.holds Try.pinned (OpenSpec.upto opaqueTellsSpec)

/-- 'turnstilelaw30.OpaqueLess', WHERE WHAT IT READS IS OF BULK AT MOST 1048576: true; the input reads as it did. -/
def opaqueLessUptoRow : OpenClaim := { program := "ytjaegddnikkibaa", sum := "3f8766c69f21bb9eaff5b2d1288b6445ff7a2b62e0e79a7068d0bd835b2efd9b", func := "turnstile/turnstilelaw30.OpaqueLess", spec := "opaqueLess", unfollowed := true, recurses := true, apart := false, narrowed := true }
def OpaqueLessUptoSaid : Prop := opaqueLessUptoRow.holds Try.pinned (OpenSpec.upto opaqueLessSpec)

/-- 'turnstilelaw30.OpaqueNames', WHERE WHAT IT READS IS OF BULK AT MOST 1048576: true; the input reads as it did. -/
def opaqueNamesUptoRow : OpenClaim := { program := "ytjaegddnikkibaa", sum := "3f8766c69f21bb9eaff5b2d1288b6445ff7a2b62e0e79a7068d0bd835b2efd9b", func := "turnstile/turnstilelaw30.OpaqueNames", spec := "opaqueNames", unfollowed := true, recurses := true, apart := false, narrowed := true }
def OpaqueNamesUptoSaid : Prop := opaqueNamesUptoRow.holds Try.pinned (OpenSpec.upto opaqueNamesSpec)

/-- 'turnstilelaw30.OpaqueFirst', WHERE WHAT IT READS IS OF BULK AT MOST 1048576: true; the input reads as it did. -/
def opaqueFirstUptoRow : OpenClaim := { program := "ytjaegddnikkibaa", sum := "3f8766c69f21bb9eaff5b2d1288b6445ff7a2b62e0e79a7068d0bd835b2efd9b", func := "turnstile/turnstilelaw30.OpaqueFirst", spec := "opaqueFirst", unfollowed := true, recurses := true, apart := false, narrowed := true }
def OpaqueFirstUptoSaid : Prop := opaqueFirstUptoRow.holds Try.pinned (OpenSpec.upto opaqueFirstSpec)

/-- 'turnstilelaw29.SerialSorts', WHERE WHAT IT READS IS OF BULK AT MOST 1048576: true; the input reads as it did. -/
def serialSortsUptoRow : OpenClaim := { program := "ytjaegddnikkibaa", sum := "3f8766c69f21bb9eaff5b2d1288b6445ff7a2b62e0e79a7068d0bd835b2efd9b", func := "turnstile/turnstilelaw29.SerialSorts", spec := "serialSorts", unfollowed := true, recurses := true, apart := false, narrowed := true }
def SerialSortsUptoSaid : Prop := serialSortsUptoRow.holds Try.pinned (OpenSpec.upto serialSortsSpec)

/-- 'turnstilelaw29.SerialNames', WHERE WHAT IT READS IS OF BULK AT MOST 1048576: true; the input reads as it did. -/
def serialNamesUptoRow : OpenClaim := { program := "ytjaegddnikkibaa", sum := "3f8766c69f21bb9eaff5b2d1288b6445ff7a2b62e0e79a7068d0bd835b2efd9b", func := "turnstile/turnstilelaw29.SerialNames", spec := "serialNames", unfollowed := true, recurses := true, apart := false, narrowed := true }
def SerialNamesUptoSaid : Prop := serialNamesUptoRow.holds Try.pinned (OpenSpec.upto serialNamesSpec)

end Rows
end Go.Proofs.Ytjaegddnikkibaa
