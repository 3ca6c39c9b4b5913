/-
  The document's text of instructions, walked.
-/
import Derived.Test.YtkkcngppmhebbaaGreatDoorRefCheck
import Derived.Test.YtkkcngppmhebbaaGreatDoorRegion
set_option linter.unusedVariables false
set_option linter.unusedSimpArgs false
namespace Go.Proofs.YtkkcngppmhebbaaGreatDoor
open Go.RowKit

def kindCells : List Value := kindWords.map fun l => .string ⟨l.toArray⟩
theorem kindCells_eq : (#[.string ⟨#[115, 101, 116]⟩, .string ⟨#[109, 111, 118, 101]⟩, .string ⟨#[99, 97, 108, 99]⟩, .string ⟨#[108, 111, 97, 100]⟩, .string ⟨#[115, 116, 111, 114, 101]⟩, .string ⟨#[106, 117, 109, 112]⟩, .string ⟨#[122, 101, 114, 111]⟩, .string ⟨#[99, 97, 115]⟩, .string ⟨#[120, 97, 100, 100]⟩, .string ⟨#[102, 101, 110, 99, 101]⟩, .string ⟨#[111, 117, 116]⟩, .string ⟨#[110, 111, 116, 101]⟩, .string ⟨#[116, 114, 97, 112]⟩, .string ⟨#[104, 97, 108, 116]⟩, .string ⟨#[108, 111, 111, 107]⟩] : Array Value) = kindCells.toArray := by kernel_rfl
theorem calcCells_eq : (#[.string ⟨#[97, 100, 100]⟩, .string ⟨#[115, 117, 98]⟩, .string ⟨#[109, 117, 108]⟩, .string ⟨#[100, 105, 118]⟩, .string ⟨#[109, 111, 100]⟩, .string ⟨#[97, 110, 100]⟩, .string ⟨#[111, 114]⟩, .string ⟨#[120, 111, 114]⟩, .string ⟨#[115, 104, 108]⟩, .string ⟨#[115, 104, 114]⟩, .string ⟨#[101, 113]⟩, .string ⟨#[110, 101]⟩, .string ⟨#[108, 116]⟩, .string ⟨#[108, 101]⟩] : Array Value) = calcCells.toArray := by kernel_rfl
set_option maxHeartbeats 1000000 in
set_option maxRecDepth 100000 in
theorem rnames_any (w : World) : Calls Tryz.prog 184 #[] w fun e w' => e = .returned (.slice (some ⟨w.heap.size, 0, none⟩) 15 15) ∧ w' = w.alloc (.cells kindCells.toArray 9 (0, 0)) := by
  rw [← kindCells_eq]
  go_enter Tryz.func184, Tryz.ntmps184
  go_wp2
  go_ret
  exact ⟨rfl, rfl⟩
set_option maxHeartbeats 1000000 in
set_option maxRecDepth 100000 in
theorem rcalcs_any (w : World) : Calls Tryz.prog 185 #[] w fun e w' => e = .returned (.slice (some ⟨w.heap.size, 0, none⟩) 14 14) ∧ w' = w.alloc (.cells calcCells.toArray 9 (0, 0)) := by
  rw [← calcCells_eq]
  go_enter Tryz.func185, Tryz.ntmps185
  go_wp2
  go_ret
  exact ⟨rfl, rfl⟩
theorem rnames_b (w : World) : Calls Tryz.prog 184 #[] w fun e w' => e = .returned (.slice (some ⟨w.heap.size, 0, none⟩) 15 15) ∧ Below w.heap.size w w' ∧ w'.heap[w.heap.size]? = some (.cells kindCells.toArray 9 (0, 0)) :=
  (rnames_any w).mono fun e w' ⟨he, hw⟩ => ⟨he, by rw [hw]; exact (Below.refl _ _).alloc (Nat.le_refl _) _, by rw [hw]; exact heap_alloc_new w _⟩
theorem rcalcs_b (w : World) : Calls Tryz.prog 185 #[] w fun e w' => e = .returned (.slice (some ⟨w.heap.size, 0, none⟩) 14 14) ∧ Below w.heap.size w w' ∧ w'.heap[w.heap.size]? = some (.cells calcCells.toArray 9 (0, 0)) :=
  (rcalcs_any w).mono fun e w' ⟨he, hw⟩ => ⟨he, by rw [hw]; exact (Below.refl _ _).alloc (Nat.le_refl _) _, by rw [hw]; exact heap_alloc_new w _⟩
theorem kind_at (k : Nat) (h1 : 1 ≤ k) (h2 : k ≤ 15) : kindCells[k - 1]? = some (.string ⟨(kindW k).toArray⟩) := by
  have key : ∀ i, i < 15 → kindCells[i]? = some (.string ⟨(kindWords.getD i []).toArray⟩) := by
    intro i hi
    unfold kindCells
    have hl : i < kindWords.length := hi
    rw [List.getElem?_map, List.getD, List.getElem?_eq_getElem hl]; rfl
  rw [key _ (by omega)]
  unfold kindW
  rw [Int.toNat_natCast]
theorem calc_at' (c : Nat) (h1 : 1 ≤ c) (h2 : c ≤ 14) : calcCells[c - 1]? = some (.string ⟨(calcW c).toArray⟩) := by
  rw [show c - 1 = ((c : Int) - 1).toNat by omega]
  exact calc_at c (by omega) (by omega)

/-- the text of an instruction, without the line feed -/
def lineT (o : Cmd) : List UInt8 :=
  match formV o.k with
  | none => []
  | some f => kindW o.k ++ (if f.cal then 32 :: calcW o.c else []) ++ (([o.a, o.b, o.d].take f.regs).flatMap regText) ++ (if f.num then 32 :: Lib.itoa o.n else [])
theorem textOp_line {o : Cmd} {f : Form} (h : formV o.k = some f) : textOp o = lineT o ++ [10] := by unfold textOp lineT; rw [h]
theorem cat_b' (a b : List UInt8) : (⟨a.toArray⟩ : ByteArray) ++ ⟨b.toArray⟩ = ⟨(a ++ b).toArray⟩ := by
  apply ByteArray.ext
  simp
theorem reg_take {a b d : Int} {r j : Nat} (hr : r ≤ 3) (hj : j < r) (ha : 0 ≤ a ∧ a ≤ 255) (hb : 0 ≤ b ∧ b ≤ 255) (hd : 0 ≤ d ∧ d ≤ 255) :
    ∃ v : Int, (#[.int .u8 a, .int .u8 b, .int .u8 d] : Array Value)[j]? = some (.int .u8 v) ∧ 0 ≤ v ∧ v ≤ 255 ∧ ([a, b, d].take r).drop j = v :: ([a, b, d].take r).drop (j + 1) := by
  rcases (by omega : r = 1 ∨ r = 2 ∨ r = 3) with rfl | rfl | rfl <;> rcases (by omega : j = 0 ∨ j = 1 ∨ j = 2) with rfl | rfl | rfl
  all_goals first | omega | exact ⟨a, rfl, ha.1, ha.2, rfl⟩ | exact ⟨b, rfl, hb.1, hb.2, rfl⟩ | exact ⟨d, rfl, hd.1, hd.2, rfl⟩
/-- the state of memory in Line: the instruction's box -/
abbrev BoxS (wr : World) (X : Nat) (k c : Int) (W : World) : Prop := Below wr.heap.size wr W ∧ W.cell? ⟨X, 0, none⟩ = some (.int .u8 k) ∧ W.cell? ⟨X, 1, none⟩ = some (.int .u8 c)

end Go.Proofs.YtkkcngppmhebbaaGreatDoor
