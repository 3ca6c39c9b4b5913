/-
  show: a sign, a digit ahead, the end of a text.
-/
import Derived.Test.YtblnmlbkgdncnaaDoorShowA
set_option linter.unusedVariables false
set_option linter.unusedSimpArgs false
namespace Go.Proofs.YtblnmlbkgdncnaaDoor
open Go.RowKit

theorem sidx0 (w : World) : (Instr.index 113 (.agg #[.string { data := #[43] }, .string { data := #[45] }, .string { data := #[42] }, .string { data := #[47] }, .string { data := #[37] }, .string { data := #[61, 61] }, .string { data := #[33, 61] }, .string { data := #[60] }, .string { data := #[60, 61] }, .string { data := #[62] }, .string { data := #[62, 61] }, .string { data := #[38, 38] }, .string { data := #[124, 124] }]) (.int .u8 0)).run Tryd.prog w = .ok (.string { data := #[43] }) w := by first | kernel_rfl | rfl
theorem sidx1 (w : World) : (Instr.index 113 (.agg #[.string { data := #[43] }, .string { data := #[45] }, .string { data := #[42] }, .string { data := #[47] }, .string { data := #[37] }, .string { data := #[61, 61] }, .string { data := #[33, 61] }, .string { data := #[60] }, .string { data := #[60, 61] }, .string { data := #[62] }, .string { data := #[62, 61] }, .string { data := #[38, 38] }, .string { data := #[124, 124] }]) (.int .u8 1)).run Tryd.prog w = .ok (.string { data := #[45] }) w := by first | kernel_rfl | rfl
theorem sidx2 (w : World) : (Instr.index 113 (.agg #[.string { data := #[43] }, .string { data := #[45] }, .string { data := #[42] }, .string { data := #[47] }, .string { data := #[37] }, .string { data := #[61, 61] }, .string { data := #[33, 61] }, .string { data := #[60] }, .string { data := #[60, 61] }, .string { data := #[62] }, .string { data := #[62, 61] }, .string { data := #[38, 38] }, .string { data := #[124, 124] }]) (.int .u8 2)).run Tryd.prog w = .ok (.string { data := #[42] }) w := by first | kernel_rfl | rfl
theorem sidx3 (w : World) : (Instr.index 113 (.agg #[.string { data := #[43] }, .string { data := #[45] }, .string { data := #[42] }, .string { data := #[47] }, .string { data := #[37] }, .string { data := #[61, 61] }, .string { data := #[33, 61] }, .string { data := #[60] }, .string { data := #[60, 61] }, .string { data := #[62] }, .string { data := #[62, 61] }, .string { data := #[38, 38] }, .string { data := #[124, 124] }]) (.int .u8 3)).run Tryd.prog w = .ok (.string { data := #[47] }) w := by first | kernel_rfl | rfl
theorem sidx4 (w : World) : (Instr.index 113 (.agg #[.string { data := #[43] }, .string { data := #[45] }, .string { data := #[42] }, .string { data := #[47] }, .string { data := #[37] }, .string { data := #[61, 61] }, .string { data := #[33, 61] }, .string { data := #[60] }, .string { data := #[60, 61] }, .string { data := #[62] }, .string { data := #[62, 61] }, .string { data := #[38, 38] }, .string { data := #[124, 124] }]) (.int .u8 4)).run Tryd.prog w = .ok (.string { data := #[37] }) w := by first | kernel_rfl | rfl
theorem sidx5 (w : World) : (Instr.index 113 (.agg #[.string { data := #[43] }, .string { data := #[45] }, .string { data := #[42] }, .string { data := #[47] }, .string { data := #[37] }, .string { data := #[61, 61] }, .string { data := #[33, 61] }, .string { data := #[60] }, .string { data := #[60, 61] }, .string { data := #[62] }, .string { data := #[62, 61] }, .string { data := #[38, 38] }, .string { data := #[124, 124] }]) (.int .u8 5)).run Tryd.prog w = .ok (.string { data := #[61, 61] }) w := by first | kernel_rfl | rfl
theorem sidx6 (w : World) : (Instr.index 113 (.agg #[.string { data := #[43] }, .string { data := #[45] }, .string { data := #[42] }, .string { data := #[47] }, .string { data := #[37] }, .string { data := #[61, 61] }, .string { data := #[33, 61] }, .string { data := #[60] }, .string { data := #[60, 61] }, .string { data := #[62] }, .string { data := #[62, 61] }, .string { data := #[38, 38] }, .string { data := #[124, 124] }]) (.int .u8 6)).run Tryd.prog w = .ok (.string { data := #[33, 61] }) w := by first | kernel_rfl | rfl
theorem sidx7 (w : World) : (Instr.index 113 (.agg #[.string { data := #[43] }, .string { data := #[45] }, .string { data := #[42] }, .string { data := #[47] }, .string { data := #[37] }, .string { data := #[61, 61] }, .string { data := #[33, 61] }, .string { data := #[60] }, .string { data := #[60, 61] }, .string { data := #[62] }, .string { data := #[62, 61] }, .string { data := #[38, 38] }, .string { data := #[124, 124] }]) (.int .u8 7)).run Tryd.prog w = .ok (.string { data := #[60] }) w := by first | kernel_rfl | rfl
theorem sidx8 (w : World) : (Instr.index 113 (.agg #[.string { data := #[43] }, .string { data := #[45] }, .string { data := #[42] }, .string { data := #[47] }, .string { data := #[37] }, .string { data := #[61, 61] }, .string { data := #[33, 61] }, .string { data := #[60] }, .string { data := #[60, 61] }, .string { data := #[62] }, .string { data := #[62, 61] }, .string { data := #[38, 38] }, .string { data := #[124, 124] }]) (.int .u8 8)).run Tryd.prog w = .ok (.string { data := #[60, 61] }) w := by first | kernel_rfl | rfl
theorem sidx9 (w : World) : (Instr.index 113 (.agg #[.string { data := #[43] }, .string { data := #[45] }, .string { data := #[42] }, .string { data := #[47] }, .string { data := #[37] }, .string { data := #[61, 61] }, .string { data := #[33, 61] }, .string { data := #[60] }, .string { data := #[60, 61] }, .string { data := #[62] }, .string { data := #[62, 61] }, .string { data := #[38, 38] }, .string { data := #[124, 124] }]) (.int .u8 9)).run Tryd.prog w = .ok (.string { data := #[62] }) w := by first | kernel_rfl | rfl
theorem sidx10 (w : World) : (Instr.index 113 (.agg #[.string { data := #[43] }, .string { data := #[45] }, .string { data := #[42] }, .string { data := #[47] }, .string { data := #[37] }, .string { data := #[61, 61] }, .string { data := #[33, 61] }, .string { data := #[60] }, .string { data := #[60, 61] }, .string { data := #[62] }, .string { data := #[62, 61] }, .string { data := #[38, 38] }, .string { data := #[124, 124] }]) (.int .u8 10)).run Tryd.prog w = .ok (.string { data := #[62, 61] }) w := by first | kernel_rfl | rfl
theorem sidx11 (w : World) : (Instr.index 113 (.agg #[.string { data := #[43] }, .string { data := #[45] }, .string { data := #[42] }, .string { data := #[47] }, .string { data := #[37] }, .string { data := #[61, 61] }, .string { data := #[33, 61] }, .string { data := #[60] }, .string { data := #[60, 61] }, .string { data := #[62] }, .string { data := #[62, 61] }, .string { data := #[38, 38] }, .string { data := #[124, 124] }]) (.int .u8 11)).run Tryd.prog w = .ok (.string { data := #[38, 38] }) w := by first | kernel_rfl | rfl
theorem sidx12 (w : World) : (Instr.index 113 (.agg #[.string { data := #[43] }, .string { data := #[45] }, .string { data := #[42] }, .string { data := #[47] }, .string { data := #[37] }, .string { data := #[61, 61] }, .string { data := #[33, 61] }, .string { data := #[60] }, .string { data := #[60, 61] }, .string { data := #[62] }, .string { data := #[62, 61] }, .string { data := #[38, 38] }, .string { data := #[124, 124] }]) (.int .u8 12)).run Tryd.prog w = .ok (.string { data := #[124, 124] }) w := by first | kernel_rfl | rfl
set_option maxHeartbeats 4000000 in
set_option maxRecDepth 100000 in
theorem ssign_any (k : Int) (hk : 10 ≤ k ∧ k ≤ 22) (w : World) :
    Calls Tryd.prog 44 #[.int .u8 k] w fun e w' => e = .returned (.string ⟨(signOf k).toArray⟩) ∧ w = w' := by
  have h : k = 10 ∨ k = 11 ∨ k = 12 ∨ k = 13 ∨ k = 14 ∨ k = 15 ∨ k = 16 ∨ k = 17 ∨ k = 18 ∨ k = 19 ∨ k = 20 ∨ k = 21 ∨ k = 22 := by omega
  clear hk
  rcases h with rfl | rfl | rfl | rfl | rfl | rfl | rfl | rfl | rfl | rfl | rfl | rfl | rfl
  · have hi := sidx0
    go_enter Tryd.func44, Tryd.ntmps44
    go_wp2
    go_ret
    exact ⟨rfl, rfl⟩
  · have hi := sidx1
    go_enter Tryd.func44, Tryd.ntmps44
    go_wp2
    go_ret
    exact ⟨rfl, rfl⟩
  · have hi := sidx2
    go_enter Tryd.func44, Tryd.ntmps44
    go_wp2
    go_ret
    exact ⟨rfl, rfl⟩
  · have hi := sidx3
    go_enter Tryd.func44, Tryd.ntmps44
    go_wp2
    go_ret
    exact ⟨rfl, rfl⟩
  · have hi := sidx4
    go_enter Tryd.func44, Tryd.ntmps44
    go_wp2
    go_ret
    exact ⟨rfl, rfl⟩
  · have hi := sidx5
    go_enter Tryd.func44, Tryd.ntmps44
    go_wp2
    go_ret
    exact ⟨rfl, rfl⟩
  · have hi := sidx6
    go_enter Tryd.func44, Tryd.ntmps44
    go_wp2
    go_ret
    exact ⟨rfl, rfl⟩
  · have hi := sidx7
    go_enter Tryd.func44, Tryd.ntmps44
    go_wp2
    go_ret
    exact ⟨rfl, rfl⟩
  · have hi := sidx8
    go_enter Tryd.func44, Tryd.ntmps44
    go_wp2
    go_ret
    exact ⟨rfl, rfl⟩
  · have hi := sidx9
    go_enter Tryd.func44, Tryd.ntmps44
    go_wp2
    go_ret
    exact ⟨rfl, rfl⟩
  · have hi := sidx10
    go_enter Tryd.func44, Tryd.ntmps44
    go_wp2
    go_ret
    exact ⟨rfl, rfl⟩
  · have hi := sidx11
    go_enter Tryd.func44, Tryd.ntmps44
    go_wp2
    go_ret
    exact ⟨rfl, rfl⟩
  · have hi := sidx12
    go_enter Tryd.func44, Tryd.ntmps44
    go_wp2
    go_ret
    exact ⟨rfl, rfl⟩

set_option maxHeartbeats 4000000 in
/-- the end of a text: all of it, or that it is too long -/
theorem sshort_any (Bb : Nat) (wB : World) (t : List UInt8) (W : World) (h : TxSt Bb wB t W) (h0 : t ≠ []) (hl : t.length ≤ 140737488355328) :
    Calls Tryd.prog 24 #[.pointer (some ⟨Bb, 0, none⟩)] W fun e w' => e = .returned (if 65536 < t.length then .tuple #[.string ⟨([] : List UInt8).toArray⟩, .int .i64 3] else .tuple #[.string ⟨t.toArray⟩, .int .i64 0]) ∧ Below Bb wB w' := by
  have CL := Lib.hid (wlen_any Bb Bb t W h.wr)
  have CS := Lib.hid (wtext_any Bb Bb t W h.wr h0)
  have HB := Lib.hid h.bel
  clear h h0 hl
  by_cases hb : 65536 < t.length
  · have d1 : decide ((65536 : Int) < (t.length : Int)) = true := by simp; omega
    rw [if_pos hb]
    clear hb
    go_enter Tryd.func24, Tryd.ntmps24
    go_wp2_with (go_at_call 45; refine CL.out.mono ?_; rintro e w1 ⟨rfl, rfl⟩)
    go_ret2
    exact ⟨rfl, HB.out⟩
  · have d1 : decide ((65536 : Int) < (t.length : Int)) = false := by simp; omega
    rw [if_neg hb]
    clear hb
    go_enter Tryd.func24, Tryd.ntmps24
    go_wp2_with (first | (go_at_call 45; refine CL.out.mono ?_; rintro e w1 ⟨rfl, rfl⟩) | (go_at_call 16; refine CS.out.mono ?_; rintro e w1 ⟨rfl, hb1⟩; have HB1 := Lib.hid (HB.out.trans hb1); clear hb1))
    go_ret2
    exact ⟨rfl, HB1.out⟩

theorem sdig_eq {k n : Int} {nm : List UInt8} {t : Ty} {d : Hd} {y : Ex} {r : List Ex} (h : k = 4 ∨ k = 5) : digEx (.mk k n nm t d (y :: r)) = digEx y := by
  rw [digEx, if_pos h, digExs]
/-- an expression whose form is right, all through -/
def ExGood (x : Ex) : Prop := ∃ deep it m, chkEx x deep it = .ok m
theorem ExGood.form {x : Ex} (h : ExGood x) : exForm x = 0 := by
  obtain ⟨deep, it, m, h⟩ := h
  exact (chkEx_ok x deep it m h).2.2.2.1
theorem chkExs_mem : ∀ (l : List Ex) (deep it m : Nat), chkExs l deep it = .ok m → ∀ y ∈ l, ∃ it' m', chkEx y deep it' = .ok m'
  | [], _, _, _, _, y, hy => by simp at hy
  | x :: r, deep, it, m, h, y, hy => by
    rw [chkExs] at h
    cases hx : chkEx x deep it with
    | error e => rw [hx] at h; cases h
    | ok m1 =>
      rw [hx] at h
      rcases List.mem_cons.1 hy with rfl | hy
      · exact ⟨_, _, hx⟩
      · exact chkExs_mem r deep m1 m h y hy
theorem ExGood.sub {x : Ex} (h : ExGood x) : ∀ y ∈ x.args, ExGood y := fun y hy => by
  obtain ⟨deep, it, m, h⟩ := h
  obtain ⟨i, m', h2⟩ := chkExs_mem _ _ _ _ (chkEx_ok x deep it m h).2.2.2.2 y hy
  exact ⟨_, _, _, h2⟩
theorem ExGood.len {x : Ex} (h : ExGood x) : (x.k = 4 ∨ x.k = 8 ∨ x.k = 9 → x.args.length = 1) ∧ (x.k = 5 ∨ (10 ≤ x.k ∧ x.k ≤ 22) → x.args.length = 2) := by
  obtain ⟨m, nd, ha, hm, -⟩ := exForm_ok h.form
  unfold arity at ha
  refine ⟨fun hk => ?_, fun hk => ?_⟩
  · split at ha <;> try omega
    split at ha <;> try omega
    split at ha
    · injection ha with ha; injection ha with h1 h2; omega
    · split at ha <;> try omega
      split at ha <;> try omega
      split at ha
      · injection ha with ha; injection ha with h1 h2; omega
      · omega
  · split at ha <;> try omega
    split at ha <;> try omega
    split at ha <;> try omega
    split at ha
    · injection ha with ha; injection ha with h1 h2; omega
    · split at ha <;> try omega
      split at ha <;> try omega
      split at ha
      · injection ha with ha; injection ha with h1 h2; omega
      · omega
theorem ExGood.kind {x : Ex} (h : ExGood x) : 1 ≤ x.k ∧ x.k ≤ 22 := by
  obtain ⟨m, nd, ha, -⟩ := exForm_ok h.form
  unfold arity at ha
  repeat' split at ha
  all_goals first | cases ha; done | omega
end Go.Proofs.YtblnmlbkgdncnaaDoor
