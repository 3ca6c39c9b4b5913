/-
  What the rows list of the library's variables, as facts on a world; they stay below new memory; and a world that holds them, for the witness.
-/
import Derived.Test.YthepjanojmemaaaGreatDoorRows
import Derived.Test.YthepjanojmemaaaGreatDoorShelf
import Derived.WalkKit
import Derived.WalkSmall
import Derived.Stop.LaidErr
import Derived.Lib.LaidTab
import Derived.Deep.DeepWitnessRowRef
import Derived.Deep.DeepLaidRun
import Derived.MakeChecks
set_option linter.unusedVariables false
set_option linter.unusedSimpArgs false
namespace Go.Proofs.YthepjanojmemaaaGreatDoor
open Go.RowKit Go.Shelf

theorem gES : Tryz.prog.globalNamed "strconv.ErrSyntax" = some 1 := by kernel_rfl
theorem gER : Tryz.prog.globalNamed "strconv.ErrRange" = some 2 := by kernel_rfl
theorem gPT : Tryz.prog.globalNamed "internal/strconv.uint64pow10" = some 3 := by kernel_rfl
theorem gEST : (Tryz.prog.globals[1]?).map (·.type) = some 285 := by kernel_rfl
theorem gERT : (Tryz.prog.globals[2]?).map (·.type) = some 285 := by kernel_rfl
theorem gPTT : (Tryz.prog.globals[3]?).map (·.type) = some 307 := by kernel_rfl
theorem cellsES : Tryz.prog.cellsOf 318 = 1 := by kernel_rfl
theorem cellsStr : Tryz.prog.cellsOf 9 = 1 := by kernel_rfl
theorem cellsU64 : Tryz.prog.cellsOf 74 = 1 := by kernel_rfl
theorem cellsTab : Tryz.prog.cellsOf 307 = 20 := by kernel_rfl
theorem starES : "*" ++ "errors.errorString" = "*errors.errorString" := by decide
theorem rowES (u : TypeId) (h : Tryz.prog.typeName? 3 u = some "*errors.errorString") : u = 316 :=
  typeName_ptr_named (nm := "errors.errorString") (by rw [starES]; kernel_rfl) (by kernel_rfl) (by decide) u (by rw [starES]; exact h)

/-- what is known of the library's variables -/
structure Globs (w : World) : Prop where
  tab : Lib.TabIs Tryz.prog w "internal/strconv.uint64pow10" .u64 Lib.pow10Tab
  syn : ∃ tp p, w.var? Tryz.prog "strconv.ErrSyntax" = some #[.iface tp p]
  rng : ∃ tp p, w.var? Tryz.prog "strconv.ErrRange" = some #[.iface tp p]

theorem var_lt {w : World} {n : String} {g : Nat} {cs : Array Value} (hg : Tryz.prog.globalNamed n = some g) (h : w.var? Tryz.prog n = some cs) : g < w.heap.size := by
  unfold World.var? at h
  rw [hg] at h
  rcases Nat.lt_or_ge g w.heap.size with hlt | hge
  · exact hlt
  · simp [Array.getElem?_eq_none hge] at h

theorem Globs.below {w w' : World} (h : Globs w) (hb : Below w.heap.size w w') : Globs w' := by
  obtain ⟨h1, ⟨t1, p1, h2⟩, ⟨t2, p2, h3⟩⟩ := h
  exact ⟨var?_below hb gPT (var_lt gPT h1) h1, ⟨t1, p1, var?_below hb gES (var_lt gES h2) h2⟩, ⟨t2, p2, var?_below hb gER (var_lt gER h3) h3⟩⟩

theorem globs_of_laid {W : World} (h : laidMetH Tryz.prog Rows.lexTokensRow.laid W) : Globs W := by
  rw [MakeChecks.laidMetH_plain _ _ _ (by kernel_rfl)] at h
  have h1 : laidMet Tryz.prog (("math/bits.deBruijn32tab", Rows.laid_math_bits_deBruijn32tab) :: ("math/bits.deBruijn64tab", Rows.laid_math_bits_deBruijn64tab) ::
    ("internal/strconv.uint64pow10", Rows.laid_internal_strconv_uint64pow10) :: ("strconv.ErrRange", Rows.laid_strconv_ErrRange) :: ("strconv.ErrSyntax", Rows.laid_strconv_ErrSyntax) :: []) W := h
  have h3 := h1.tail.tail
  obtain ⟨a1, s1, v1, -⟩ := laid_sentinel h3.tail gER gERT Tryz.underlying285 rowES Tryz.underlying316 Tryz.underlying318 rfl rfl Tryz.underlying9 cellsES cellsStr
  obtain ⟨a2, s2, v2, -⟩ := laid_sentinel h3.tail.tail gES gEST Tryz.underlying285 rowES Tryz.underlying316 Tryz.underlying318 rfl rfl Tryz.underlying9 cellsES cellsStr
  exact ⟨Lib.tabIs_of_head gPT gPTT Tryz.underlying307 Tryz.underlying74 cellsU64 cellsTab h3, ⟨_, _, v2⟩, ⟨_, _, v1⟩⟩

/-! ### a world that holds them -/
noncomputable def low : Nat := (World.holding Tryz.prog default ⟨#[], #[], []⟩).heap.size
abbrev synS : ByteArray := { data := #[105, 110, 118, 97, 108, 105, 100, 32, 115, 121, 110, 116, 97, 120] }
abbrev rngS : ByteArray := { data := #[118, 97, 108, 117, 101, 32, 111, 117, 116, 32, 111, 102, 32, 114, 97, 110, 103, 101] }
def intsOf {H : Type} (d : DataW H) : Array Value :=
  match d with
  | .agg l => (l.map fun x => match x with | .lit (.int k n) => Value.int k n | _ => Value.nilIface).toArray
  | _ => #[]
def put (g : Nat) (cs : Array Value) (h : Array Obj) : Array Obj := h.modify g fun
  | .cells _ t frozen => .cells cs t frozen
  | o => o
noncomputable def laidWorld (os : Os) : World :=
  let w0 := World.holding Tryz.prog os ⟨#[.cells #[.string synS] 318, .cells #[.string rngS] 318], #[], []⟩
  { w0 with heap := put 1 #[.iface 316 (.pointer (some ⟨low, 0, none⟩))] (put 2 #[.iface 316 (.pointer (some ⟨low + 1, 0, none⟩))]
      (put 3 (intsOf (H := Unit) Rows.laid_internal_strconv_uint64pow10) (put 4 (intsOf (H := Unit) Rows.laid_math_bits_deBruijn32tab)
      (put 5 (intsOf (H := Unit) Rows.laid_math_bits_deBruijn64tab) w0.heap)))) }
theorem laid_met (os : Os) (args : Array Value) : laidMetH Tryz.prog Rows.lexTokensRow.laid ((laidWorld os).forCall (fun _ _ => 0) ⟨#[], args, []⟩).memory := by
  rw [MakeChecks.laidMetH_plain _ _ _ (by kernel_rfl)]
  exact laidMet_of_run3 8 (by kernel_rfl) (by kernel_rfl) (by kernel_rfl)
end Go.Proofs.YthepjanojmemaaaGreatDoor
