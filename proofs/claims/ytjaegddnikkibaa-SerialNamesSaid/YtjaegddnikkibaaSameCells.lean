/-
  SameCells walked, at cells that are the same.
-/
import Derived.Test.YtjaegddnikkibaaWords
import Derived.BigQuiet
set_option linter.unusedVariables false
set_option linter.unusedSimpArgs false
namespace Go.Proofs.Ytjaegddnikkibaa
open Go.RowKit Go.Sort Go.Maps

set_option maxHeartbeats 2000000 in
set_option maxRecDepth 100000 in
theorem sameCells_any (A B : Option Addr) (c d : Nat) (cs : List (Int × Int)) (w : World) (hn : cs.length ≤ 68157440) (ha : CellsAt w A cs) (hb : CellsAt w B cs) :
    Calls Try.prog 27 #[.slice A cs.length c, .slice B cs.length d] w fun e w' => e = .returned (.bool true) ∧ Below w.heap.size w w' := by
  have HA := Lib.hid (fun W (h : Below w.heap.size w W) => ha.keep h)
  have HB := Lib.hid (fun W (h : Below w.heap.size w W) => hb.keep h)
  clear ha hb
  go_enter Try.func27, Try.ntmps27
  go_wp2_with fail
  go_loopw [13] (fun i wr => ∃ k : Nat, i = .int .i64 k ∧ k ≤ cs.length ∧ Hid (Below w.heap.size w wr)) (fun i _ => cs.length - (intOf i).toNat)
  case atStart => exact ⟨0, rfl, Nat.zero_le _, Lib.hid (Below.refl _ _)⟩
  case round =>
    obtain ⟨k, rfl, hk, hW⟩ := hrel
    by_cases hlt : k < cs.length
    · obtain ⟨b, off, rfl, hbl, hc⟩ := HA.out _ hW.out (by rintro rfl; simp at hlt)
      obtain ⟨b2, off2, rfl, hbl2, hc2⟩ := HB.out _ hW.out (by rintro rfl; simp at hlt)
      obtain ⟨e0, e1⟩ := hc k _ (List.getElem?_eq_getElem hlt)
      obtain ⟨f0, f1⟩ := hc2 k _ (List.getElem?_eq_getElem hlt)
      have p1 : (k : Int) < (cs.length : Int) := by omega
      have p2 : (0 : Int) ≤ (k : Int) := Int.natCast_nonneg _
      have hE := Lib.hid (fun n => below_drewN hW.out n)
      clear hc hc2 hW
      generalize cs[k] = cc at *
      obtain ⟨x, v⟩ := cc
      dsimp only at *
      go_wp2_with fail
      go_quiet (fail)
      go_wp2_with fail
      go_roundw
      case rel => exact ⟨k + 1, by go_num, by omega, Lib.hid (hE.out _)⟩
      case measure => simp [intOf]; omega
    · clear HA HB
      go_wp2_with fail
      go_ret
      exact ⟨rfl, hW.out⟩
end Go.Proofs.Ytjaegddnikkibaa
