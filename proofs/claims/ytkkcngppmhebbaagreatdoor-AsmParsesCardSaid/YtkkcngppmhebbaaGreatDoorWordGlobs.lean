/-
  What the rows list of the library's variables, as facts on a world; they stay below new memory; and a world that holds them, for the witness.
-/
import Derived.Test.YtkkcngppmhebbaaGreatDoorRows
import Derived.Test.YtkkcngppmhebbaaGreatDoorShelf
import Derived.WalkKit
import Derived.WalkSmall
import Derived.Stop.LaidErr
import Derived.Lib.LaidTab
import Derived.Lib.Space
import Derived.Deep.DeepWitnessRowRef
import Derived.Deep.DeepLaidRun
import Derived.MakeChecks
set_option linter.unusedVariables false
set_option linter.unusedSimpArgs false
namespace Go.Proofs.YtkkcngppmhebbaaGreatDoor
open Go.RowKit Go.Shelf

theorem gES : Tryz.prog.globalNamed "strconv.ErrSyntax" = some 5 := by kernel_rfl
theorem gER : Tryz.prog.globalNamed "strconv.ErrRange" = some 6 := by kernel_rfl
theorem gPT : Tryz.prog.globalNamed "internal/strconv.uint64pow10" = some 7 := by kernel_rfl
theorem gEST : (Tryz.prog.globals[5]?).map (·.type) = some 328 := by kernel_rfl
theorem gERT : (Tryz.prog.globals[6]?).map (·.type) = some 328 := by kernel_rfl
theorem gPTT : (Tryz.prog.globals[7]?).map (·.type) = some 391 := by kernel_rfl
theorem cellsES : Tryz.prog.cellsOf 399 = 1 := by kernel_rfl
theorem cellsStr : Tryz.prog.cellsOf 9 = 1 := by kernel_rfl
theorem cellsU64 : Tryz.prog.cellsOf 343 = 1 := by kernel_rfl
theorem cellsTab : Tryz.prog.cellsOf 391 = 20 := by kernel_rfl
theorem gAS : Tryz.prog.globalNamed "strings.asciiSpace" = some 1 := by kernel_rfl
theorem gAST : (Tryz.prog.globals[1]?).map (·.type) = some 351 := by kernel_rfl
theorem cellsU8 : Tryz.prog.cellsOf 5 = 1 := by kernel_rfl
theorem cellsAS : Tryz.prog.cellsOf 351 = 256 := by kernel_rfl
theorem starES : "*" ++ "errors.errorString" = "*errors.errorString" := by decide
theorem rowES (u : TypeId) (h : Tryz.prog.typeName? 3 u = some "*errors.errorString") : u = 397 :=
  typeName_ptr_named (nm := "errors.errorString") (by rw [starES]; kernel_rfl) (by kernel_rfl) (by decide) u (by rw [starES]; exact h)

/-- what is known of the library's variables -/
structure Globs (w : World) : Prop where
  tab : Lib.TabIs Tryz.prog w "internal/strconv.uint64pow10" .u64 Lib.pow10Tab
  syn : ∃ tp p, w.var? Tryz.prog "strconv.ErrSyntax" = some #[.iface tp p]
  rng : ∃ tp p, w.var? Tryz.prog "strconv.ErrRange" = some #[.iface tp p]

theorem var_lt {w : World} {n : String} {g : Nat} {cs : Array Value} (hg : Tryz.prog.globalNamed n = some g) (h : w.var? Tryz.prog n = some cs) : g < w.heap.size := by
  unfold World.var? at h
  rw [hg] at h
  rcases Nat.lt_or_ge g w.heap.size with hlt | hge
  · exact hlt
  · simp [Array.getElem?_eq_none hge] at h

theorem Globs.below {w w' : World} (h : Globs w) (hb : Below w.heap.size w w') : Globs w' := by
  obtain ⟨h1, ⟨t1, p1, h2⟩, ⟨t2, p2, h3⟩⟩ := h
  exact ⟨var?_below hb gPT (var_lt gPT h1) h1, ⟨t1, p1, var?_below hb gES (var_lt gES h2) h2⟩, ⟨t2, p2, var?_below hb gER (var_lt gER h3) h3⟩⟩

/-- .. the table of white space and the bound of the byte search too -/
structure AGlobs (w : World) : Prop where
  g : Globs w
  sp : Lib.TabIs Tryz.prog w "strings.asciiSpace" .u8 Lib.asciiSpaceTab
  ml : ∃ m, w.cell? ⟨0, 0, none⟩ = some (.int .i64 m)
  lt : 0 < w.heap.size
theorem AGlobs.below {w w' : World} (h : AGlobs w) (hb : Below w.heap.size w w') : AGlobs w' := by
  obtain ⟨m, hm⟩ := h.ml
  exact ⟨h.g.below hb, var?_below hb gAS (var_lt gAS h.sp) h.sp, ⟨m, (hb.cell (p := ⟨0, 0, none⟩) h.lt).trans hm⟩, Nat.lt_of_lt_of_le h.lt hb.size⟩

set_option maxRecDepth 100000 in
theorem globs_of_laid {W : World} (h : laidMetH Tryz.prog Rows.asmParsesRow.laid W) (hS : W.ShapedOpen Tryz.prog) : AGlobs W := by
  rw [MakeChecks.laidMetH_plain _ _ _ (by kernel_rfl)] at h
  have h1 : laidMet Tryz.prog (("math/bits.deBruijn32tab", Rows.laid_math_bits_deBruijn32tab) :: ("math/bits.deBruijn64tab", Rows.laid_math_bits_deBruijn64tab) ::
    ("internal/strconv.uint64pow10", Rows.laid_internal_strconv_uint64pow10) :: ("unicode/utf8.acceptRanges", Rows.laid_unicode_utf8_acceptRanges) :: ("strconv.ErrRange", Rows.laid_strconv_ErrRange) :: ("strconv.ErrSyntax", Rows.laid_strconv_ErrSyntax) ::
    ("unicode.White_Space", Rows.laid_unicode_White_Space) :: ("strings.asciiSpace", Rows.laid_strings_asciiSpace) :: ("unicode/utf8.first", Rows.laid_unicode_utf8_first) :: []) W := h
  have h3 := h1.tail.tail
  obtain ⟨a1, s1, v1, -⟩ := laid_sentinel h3.tail.tail gER gERT Tryz.underlying328 rowES Tryz.underlying397 Tryz.underlying399 rfl rfl Tryz.underlying9 cellsES cellsStr
  obtain ⟨a2, s2, v2, -⟩ := laid_sentinel h3.tail.tail.tail gES gEST Tryz.underlying328 rowES Tryz.underlying397 Tryz.underlying399 rfl rfl Tryz.underlying9 cellsES cellsStr
  obtain ⟨m, hm⟩ : ∃ m, W.cell? ⟨0, 0, none⟩ = some (.int .i64 m) :=
    Go.Proofs.cell_of_shapedOpen_int (zero := #[.int .i64 0]) (t := 3) hS (of_decide_eq_true (by kernel_rfl)) (by kernel_rfl) rfl (by kernel_rfl) (by kernel_rfl) Tryz.underlying3
  exact ⟨⟨Lib.tabIs_of_head gPT gPTT Tryz.underlying391 Tryz.underlying343 cellsU64 cellsTab h3, ⟨_, _, v2⟩, ⟨_, _, v1⟩⟩,
    Lib.tabIs_of_head gAS gAST Tryz.underlying351 Tryz.underlying5 cellsU8 cellsAS h3.tail.tail.tail.tail.tail, ⟨m, hm⟩, World.block_lt_of_cell? W _ hm⟩

/-! ### a world that holds them -/
noncomputable def low : Nat := (World.holding Tryz.prog default ⟨#[], #[], []⟩).heap.size
abbrev synS : ByteArray := { data := #[105, 110, 118, 97, 108, 105, 100, 32, 115, 121, 110, 116, 97, 120] }
abbrev rngS : ByteArray := { data := #[118, 97, 108, 117, 101, 32, 111, 117, 116, 32, 111, 102, 32, 114, 97, 110, 103, 101] }
def litOf {H : Type} (d : DataW H) : List Value :=
  match d with
  | .lit (.int k n) => [Value.int k n]
  | .agg l => l.map fun x => match x with | .lit (.int k n) => Value.int k n | _ => Value.nilIface
  | _ => []
def intsOf {H : Type} (d : DataW H) : Array Value :=
  match d with
  | .agg l => (l.flatMap litOf).toArray
  | _ => #[]
def put (g : Nat) (cs : Array Value) (h : Array Obj) : Array Obj := h.modify g fun
  | .cells _ t frozen => .cells cs t frozen
  | o => o
abbrev u16 (n : Int) : Value := .int .u16 n
set_option maxRecDepth 100000 in
noncomputable def laidWorld (os : Os) : World :=
  let w0 := World.holding Tryz.prog os ⟨#[.cells #[.string synS] 399, .cells #[.string rngS] 399,
    .cells #[u16 9, u16 13, u16 1, u16 32, u16 133, u16 101, u16 160, u16 5760, u16 5600, u16 8192, u16 8202, u16 1, u16 8232, u16 8233, u16 1, u16 8239, u16 8287, u16 48, u16 12288, u16 12288, u16 1] 380,
    .cells #[.slice (some ⟨low + 2, 0, none⟩) 7 7, .slice none 0 0, .int .i64 2] 377], #[], []⟩
  { w0 with heap := put 5 #[.iface 397 (.pointer (some ⟨low, 0, none⟩))] (put 6 #[.iface 397 (.pointer (some ⟨low + 1, 0, none⟩))]
      (put 2 #[.pointer (some ⟨low + 3, 0, none⟩)] (put 1 (intsOf (H := Unit) Rows.laid_strings_asciiSpace) (put 3 (intsOf (H := Unit) Rows.laid_unicode_utf8_first)
      (put 4 (intsOf (H := Unit) Rows.laid_unicode_utf8_acceptRanges)
      (put 7 (intsOf (H := Unit) Rows.laid_internal_strconv_uint64pow10) (put 8 (intsOf (H := Unit) Rows.laid_math_bits_deBruijn32tab)
      (put 9 (intsOf (H := Unit) Rows.laid_math_bits_deBruijn64tab) w0.heap)))))))) }
set_option maxRecDepth 100000 in
theorem laid_met (os : Os) (args : Array Value) : laidMetH Tryz.prog Rows.asmParsesRow.laid ((laidWorld os).forCall (fun _ _ => 0) ⟨#[], args, []⟩).memory := by
  rw [MakeChecks.laidMetH_plain _ _ _ (by kernel_rfl)]
  exact laidMet_of_run3 8 (by kernel_rfl) (by kernel_rfl) (by kernel_rfl)
end Go.Proofs.YtkkcngppmhebbaaGreatDoor
