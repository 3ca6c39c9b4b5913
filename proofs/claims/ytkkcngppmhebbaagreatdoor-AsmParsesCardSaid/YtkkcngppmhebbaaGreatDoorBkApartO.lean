/-
  The book's Apart, with lists of kinds Op.
-/
import Derived.Test.YtkkcngppmhebbaaGreatDoorBkEmptyO
import Derived.Test.YtkkcngppmhebbaaGreatDoorBkOp
set_option linter.unusedVariables false
set_option linter.unusedSimpArgs false
namespace Go.Proofs.YtkkcngppmhebbaaGreatDoor
open Go.RowKit

def nilBk : List Nat := [1, 2, 3, 4, 5, 6, 8, 9, 10, 11, 12, 13, 14, 15, 16, 17, 18, 19, 20, 21, 22, 23, 24, 25, 26, 27]
abbrev okBk : TypeId → Bool := fun t => t == 79 || t == 124
set_option maxHeartbeats 4000000 in
set_option maxRecDepth 100000 in
theorem apart_any (K B : Nat) (kc : Array Value) (vOp : Value) (rOp : List HRow) (w : World) (hB : B ≤ w.heap.size) (hK : w.heap[K]? = some (.cells kc 55 (0, 0))) (hk : ∀ i ∈ nilBk, kc[i]? = some (.slice none 0 0))
    (kOp : kc[7]? = some vOp) (hOp : Held 79 124 6 B w vOp rOp) (nOp : rOp.length ≤ 1000) (bOp : ∀ r ∈ rOp, r.n ≤ 1000000000 ∧ 0 ≤ r.num ∧ r.num ≤ 1000)
    : Calls Tryz.prog 8 #[.pointer (some ⟨K, 0, none⟩)] w fun e w' => e = .returned (.bool true) ∧ FrB B okBk w w' := by
  have HE := Lib.hid (fun (W : World) (h : W.heap[K]? = some (.cells kc 55 (0, 0))) j (hj : j ∈ nilBk) => (cell_of_row W K j kc 55 (0, 0) h).trans (hk j hj))
  have HK0 := Lib.hid hK
  have HF0 : Hid (FrB B okBk w w) := Lib.hid (FrB.refl w)
  have HOp0 := Lib.hid hOp
  have HBOp := Lib.hid bOp
  clear hK hk hOp bOp
  go_enter Tryz.func8, Tryz.ntmps8
  go_wp2_with fail
  refine (efillNumber_any K _ (HE.out _ HK0.out 2 (by decide))).mono ?_
  rintro e ww ⟨rfl, rfl⟩
  go_wp2_with fail
  refine (efillWide_any K _ (HE.out _ HK0.out 3 (by decide))).mono ?_
  rintro e ww ⟨rfl, rfl⟩
  go_wp2_with fail
  refine (efillText_any K _ (HE.out _ HK0.out 4 (by decide))).mono ?_
  rintro e ww ⟨rfl, rfl⟩
  go_wp2_with fail
  refine (efillCell_any K _ (HE.out _ HK0.out 5 (by decide))).mono ?_
  rintro e ww ⟨rfl, rfl⟩
  go_wp2_with fail
  refine (efillIns_any K _ (HE.out _ HK0.out 6 (by decide))).mono ?_
  rintro e ww ⟨rfl, rfl⟩
  go_wp2_with fail
  refine (fillOp_any K B kc vOp rOp _ HK0.out kOp HOp0.out nOp HBOp.out).mono ?_
  rintro e w1 ⟨rfl, hh, hf⟩
  have HOp1 := Lib.hid hh
  have HK1 := Lib.hid (hf.obj HK0.out (by decide))
  have HF1 := Lib.hid (HF0.out.trans (hf.weak (ok' := okBk) (fun t ht => by simp [okBk] at ht; simp [ht])))
  clear hf hh HK0 HF0 HOp0
  go_wp2_with fail
  refine (efillEvent_any K _ (HE.out _ HK1.out 8 (by decide))).mono ?_
  rintro e ww ⟨rfl, rfl⟩
  go_wp2_with fail
  refine (efillPick_any K _ (HE.out _ HK1.out 9 (by decide))).mono ?_
  rintro e ww ⟨rfl, rfl⟩
  go_wp2_with fail
  refine (efillPlace_any K _ (HE.out _ HK1.out 10 (by decide))).mono ?_
  rintro e ww ⟨rfl, rfl⟩
  go_wp2_with fail
  refine (efillTxOp_any K _ (HE.out _ HK1.out 11 (by decide))).mono ?_
  rintro e ww ⟨rfl, rfl⟩
  go_wp2_with fail
  refine (efillToken_any K _ (HE.out _ HK1.out 12 (by decide))).mono ?_
  rintro e ww ⟨rfl, rfl⟩
  go_wp2_with fail
  refine (efillField_any K _ (HE.out _ HK1.out 13 (by decide))).mono ?_
  rintro e ww ⟨rfl, rfl⟩
  go_wp2_with fail
  refine (efillSpot_any K _ (HE.out _ HK1.out 14 (by decide))).mono ?_
  rintro e ww ⟨rfl, rfl⟩
  go_wp2_with fail
  refine (efillSeen_any K _ (HE.out _ HK1.out 15 (by decide))).mono ?_
  rintro e ww ⟨rfl, rfl⟩
  go_wp2_with fail
  refine (efillExpr_any K _ (HE.out _ HK1.out 16 (by decide))).mono ?_
  rintro e ww ⟨rfl, rfl⟩
  go_wp2_with fail
  refine (efillStmt_any K _ (HE.out _ HK1.out 17 (by decide))).mono ?_
  rintro e ww ⟨rfl, rfl⟩
  go_wp2_with fail
  refine (efillRecord_any K _ (HE.out _ HK1.out 18 (by decide))).mono ?_
  rintro e ww ⟨rfl, rfl⟩
  go_wp2_with fail
  refine (efillFunc_any K _ (HE.out _ HK1.out 19 (by decide))).mono ?_
  rintro e ww ⟨rfl, rfl⟩
  go_wp2_with fail
  refine (efillBlock_any K _ (HE.out _ HK1.out 20 (by decide))).mono ?_
  rintro e ww ⟨rfl, rfl⟩
  go_wp2_with fail
  refine (efillGraph_any K _ (HE.out _ HK1.out 21 (by decide))).mono ?_
  rintro e ww ⟨rfl, rfl⟩
  go_wp2_with fail
  refine (efillAttempt_any K _ (HE.out _ HK1.out 22 (by decide))).mono ?_
  rintro e ww ⟨rfl, rfl⟩
  go_wp2_with fail
  refine (efillNumberRow_any K _ (HE.out _ HK1.out 23 (by decide))).mono ?_
  rintro e ww ⟨rfl, rfl⟩
  go_wp2_with fail
  refine (efillOpRow_any K _ (HE.out _ HK1.out 24 (by decide))).mono ?_
  rintro e ww ⟨rfl, rfl⟩
  go_wp2_with fail
  refine (efillStmtRow_any K _ (HE.out _ HK1.out 25 (by decide))).mono ?_
  rintro e ww ⟨rfl, rfl⟩
  go_wp2_with fail
  refine (efillTxRow_any K _ (HE.out _ HK1.out 26 (by decide))).mono ?_
  rintro e ww ⟨rfl, rfl⟩
  go_wp2_with fail
  refine (efillSeenRow_any K _ (HE.out _ HK1.out 27 (by decide))).mono ?_
  rintro e ww ⟨rfl, rfl⟩
  go_wp2_with fail
  refine (egrowNumber_any K _ (HE.out _ HK1.out 2 (by decide))).mono ?_
  rintro e ww ⟨rfl, rfl⟩
  go_wp2_with fail
  refine (egrowWide_any K _ (HE.out _ HK1.out 3 (by decide))).mono ?_
  rintro e ww ⟨rfl, rfl⟩
  go_wp2_with fail
  refine (egrowText_any K _ (HE.out _ HK1.out 4 (by decide))).mono ?_
  rintro e ww ⟨rfl, rfl⟩
  go_wp2_with fail
  refine (egrowCell_any K _ (HE.out _ HK1.out 5 (by decide))).mono ?_
  rintro e ww ⟨rfl, rfl⟩
  go_wp2_with fail
  refine (egrowIns_any K _ (HE.out _ HK1.out 6 (by decide))).mono ?_
  rintro e ww ⟨rfl, rfl⟩
  go_wp2_with fail
  refine (growOp_any K B 1000000000 kc vOp (rOp.map (filled mOp)) _ (Nat.le_trans hB HF1.out.size) HK1.out kOp HOp1.out (by rw [List.length_map]; exact nOp) (by omega) (AllM.filled HBOp.out)).mono ?_
  rintro e w2 ⟨rfl, ⟨gOp, lOp, hh, ha⟩, hf⟩
  have HOp2 := Lib.hid hh
  have HAOp := Lib.hid ha
  rw [List.length_map] at lOp
  have HK2 := Lib.hid (hf.obj HK1.out (by decide))
  have HF2 := Lib.hid (HF1.out.trans (hf.weak (ok' := okBk) (fun t ht => by simp [okBk] at ht; simp [ht])))
  clear hf hh ha HK1 HF1 HOp1
  go_wp2_with fail
  refine (egrowEvent_any K _ (HE.out _ HK2.out 8 (by decide))).mono ?_
  rintro e ww ⟨rfl, rfl⟩
  go_wp2_with fail
  refine (egrowPick_any K _ (HE.out _ HK2.out 9 (by decide))).mono ?_
  rintro e ww ⟨rfl, rfl⟩
  go_wp2_with fail
  refine (egrowPlace_any K _ (HE.out _ HK2.out 10 (by decide))).mono ?_
  rintro e ww ⟨rfl, rfl⟩
  go_wp2_with fail
  refine (egrowTxOp_any K _ (HE.out _ HK2.out 11 (by decide))).mono ?_
  rintro e ww ⟨rfl, rfl⟩
  go_wp2_with fail
  refine (egrowToken_any K _ (HE.out _ HK2.out 12 (by decide))).mono ?_
  rintro e ww ⟨rfl, rfl⟩
  go_wp2_with fail
  refine (egrowField_any K _ (HE.out _ HK2.out 13 (by decide))).mono ?_
  rintro e ww ⟨rfl, rfl⟩
  go_wp2_with fail
  refine (egrowSpot_any K _ (HE.out _ HK2.out 14 (by decide))).mono ?_
  rintro e ww ⟨rfl, rfl⟩
  go_wp2_with fail
  refine (egrowSeen_any K _ (HE.out _ HK2.out 15 (by decide))).mono ?_
  rintro e ww ⟨rfl, rfl⟩
  go_wp2_with fail
  refine (egrowExpr_any K _ (HE.out _ HK2.out 16 (by decide))).mono ?_
  rintro e ww ⟨rfl, rfl⟩
  go_wp2_with fail
  refine (egrowStmt_any K _ (HE.out _ HK2.out 17 (by decide))).mono ?_
  rintro e ww ⟨rfl, rfl⟩
  go_wp2_with fail
  refine (egrowRecord_any K _ (HE.out _ HK2.out 18 (by decide))).mono ?_
  rintro e ww ⟨rfl, rfl⟩
  go_wp2_with fail
  refine (egrowFunc_any K _ (HE.out _ HK2.out 19 (by decide))).mono ?_
  rintro e ww ⟨rfl, rfl⟩
  go_wp2_with fail
  refine (egrowBlock_any K _ (HE.out _ HK2.out 20 (by decide))).mono ?_
  rintro e ww ⟨rfl, rfl⟩
  go_wp2_with fail
  refine (egrowGraph_any K _ (HE.out _ HK2.out 21 (by decide))).mono ?_
  rintro e ww ⟨rfl, rfl⟩
  go_wp2_with fail
  refine (egrowAttempt_any K _ (HE.out _ HK2.out 22 (by decide))).mono ?_
  rintro e ww ⟨rfl, rfl⟩
  go_wp2_with fail
  refine (egrowNumberRow_any K _ (HE.out _ HK2.out 23 (by decide))).mono ?_
  rintro e ww ⟨rfl, rfl⟩
  go_wp2_with fail
  refine (egrowOpRow_any K _ (HE.out _ HK2.out 24 (by decide))).mono ?_
  rintro e ww ⟨rfl, rfl⟩
  go_wp2_with fail
  refine (egrowStmtRow_any K _ (HE.out _ HK2.out 25 (by decide))).mono ?_
  rintro e ww ⟨rfl, rfl⟩
  go_wp2_with fail
  refine (egrowTxRow_any K _ (HE.out _ HK2.out 26 (by decide))).mono ?_
  rintro e ww ⟨rfl, rfl⟩
  go_wp2_with fail
  refine (egrowSeenRow_any K _ (HE.out _ HK2.out 27 (by decide))).mono ?_
  rintro e ww ⟨rfl, rfl⟩
  go_wp2_with fail
  refine wp_loop_rounds 9 ?_
  rw [rounds_succ]
  go_wp2_with fail
  refine (ebits_any K 0 _ (HE.out _ HK2.out 1 (by decide))).mono ?_
  rintro e ww ⟨rfl, rfl⟩
  go_wp2_with fail
  rw [rounds_succ]
  go_wp2_with fail
  refine (ebits_any K 1 _ (HE.out _ HK2.out 1 (by decide))).mono ?_
  rintro e ww ⟨rfl, rfl⟩
  go_wp2_with fail
  rw [rounds_succ]
  go_wp2_with fail
  refine (ebits_any K 2 _ (HE.out _ HK2.out 1 (by decide))).mono ?_
  rintro e ww ⟨rfl, rfl⟩
  go_wp2_with fail
  rw [rounds_succ]
  go_wp2_with fail
  refine (ebits_any K 3 _ (HE.out _ HK2.out 1 (by decide))).mono ?_
  rintro e ww ⟨rfl, rfl⟩
  go_wp2_with fail
  rw [rounds_succ]
  go_wp2_with fail
  refine (ebits_any K 4 _ (HE.out _ HK2.out 1 (by decide))).mono ?_
  rintro e ww ⟨rfl, rfl⟩
  go_wp2_with fail
  rw [rounds_succ]
  go_wp2_with fail
  refine (ebits_any K 5 _ (HE.out _ HK2.out 1 (by decide))).mono ?_
  rintro e ww ⟨rfl, rfl⟩
  go_wp2_with fail
  rw [rounds_succ]
  go_wp2_with fail
  refine (ebits_any K 6 _ (HE.out _ HK2.out 1 (by decide))).mono ?_
  rintro e ww ⟨rfl, rfl⟩
  go_wp2_with fail
  rw [rounds_succ]
  go_wp2_with fail
  refine (ebits_any K 7 _ (HE.out _ HK2.out 1 (by decide))).mono ?_
  rintro e ww ⟨rfl, rfl⟩
  go_wp2_with fail
  rw [rounds_succ]
  go_wp2_with fail
  refine (elookNumber_any K _ (HE.out _ HK2.out 2 (by decide))).mono ?_
  rintro e ww ⟨rfl, rfl⟩
  go_wp2_with fail
  refine (elookWide_any K _ (HE.out _ HK2.out 3 (by decide))).mono ?_
  rintro e ww ⟨rfl, rfl⟩
  go_wp2_with fail
  refine (elookText_any K _ (HE.out _ HK2.out 4 (by decide))).mono ?_
  rintro e ww ⟨rfl, rfl⟩
  go_wp2_with fail
  refine (elookCell_any K _ (HE.out _ HK2.out 5 (by decide))).mono ?_
  rintro e ww ⟨rfl, rfl⟩
  go_wp2_with fail
  refine (elookIns_any K _ (HE.out _ HK2.out 6 (by decide))).mono ?_
  rintro e ww ⟨rfl, rfl⟩
  go_wp2_with fail
  refine (lookOp_any K B (1000000000 + 3 * rOp.length) kc vOp gOp _ HK2.out kOp HOp2.out (by omega) (by omega) (by have := HAOp.out; rwa [List.length_map] at this)).mono ?_
  rintro e w3 ⟨rfl, hb⟩
  have HK3 := Lib.hid ((FrB.ofBelow (B := B) (ok := okBk) hb).obj HK2.out (by decide))
  have HF3 := Lib.hid (HF2.out.trans (FrB.ofBelow hb))
  have HOp3 := Lib.hid (HOp2.out.below hb)
  clear hb HK2 HF2 HOp2
  go_wp2_with fail
  refine (elookEvent_any K _ (HE.out _ HK3.out 8 (by decide))).mono ?_
  rintro e ww ⟨rfl, rfl⟩
  go_wp2_with fail
  refine (elookPick_any K _ (HE.out _ HK3.out 9 (by decide))).mono ?_
  rintro e ww ⟨rfl, rfl⟩
  go_wp2_with fail
  refine (elookPlace_any K _ (HE.out _ HK3.out 10 (by decide))).mono ?_
  rintro e ww ⟨rfl, rfl⟩
  go_wp2_with fail
  refine (elookTxOp_any K _ (HE.out _ HK3.out 11 (by decide))).mono ?_
  rintro e ww ⟨rfl, rfl⟩
  go_wp2_with fail
  refine (elookToken_any K _ (HE.out _ HK3.out 12 (by decide))).mono ?_
  rintro e ww ⟨rfl, rfl⟩
  go_wp2_with fail
  refine (elookField_any K _ (HE.out _ HK3.out 13 (by decide))).mono ?_
  rintro e ww ⟨rfl, rfl⟩
  go_wp2_with fail
  refine (elookSpot_any K _ (HE.out _ HK3.out 14 (by decide))).mono ?_
  rintro e ww ⟨rfl, rfl⟩
  go_wp2_with fail
  refine (elookSeen_any K _ (HE.out _ HK3.out 15 (by decide))).mono ?_
  rintro e ww ⟨rfl, rfl⟩
  go_wp2_with fail
  refine (elookExpr_any K _ (HE.out _ HK3.out 16 (by decide))).mono ?_
  rintro e ww ⟨rfl, rfl⟩
  go_wp2_with fail
  refine (elookStmt_any K _ (HE.out _ HK3.out 17 (by decide))).mono ?_
  rintro e ww ⟨rfl, rfl⟩
  go_wp2_with fail
  refine (elookRecord_any K _ (HE.out _ HK3.out 18 (by decide))).mono ?_
  rintro e ww ⟨rfl, rfl⟩
  go_wp2_with fail
  refine (elookFunc_any K _ (HE.out _ HK3.out 19 (by decide))).mono ?_
  rintro e ww ⟨rfl, rfl⟩
  go_wp2_with fail
  refine (elookBlock_any K _ (HE.out _ HK3.out 20 (by decide))).mono ?_
  rintro e ww ⟨rfl, rfl⟩
  go_wp2_with fail
  refine (elookGraph_any K _ (HE.out _ HK3.out 21 (by decide))).mono ?_
  rintro e ww ⟨rfl, rfl⟩
  go_wp2_with fail
  refine (elookAttempt_any K _ (HE.out _ HK3.out 22 (by decide))).mono ?_
  rintro e ww ⟨rfl, rfl⟩
  go_wp2_with fail
  refine (elookNumberRow_any K _ (HE.out _ HK3.out 23 (by decide))).mono ?_
  rintro e ww ⟨rfl, rfl⟩
  go_wp2_with fail
  refine (elookOpRow_any K _ (HE.out _ HK3.out 24 (by decide))).mono ?_
  rintro e ww ⟨rfl, rfl⟩
  go_wp2_with fail
  refine (elookStmtRow_any K _ (HE.out _ HK3.out 25 (by decide))).mono ?_
  rintro e ww ⟨rfl, rfl⟩
  go_wp2_with fail
  refine (elookTxRow_any K _ (HE.out _ HK3.out 26 (by decide))).mono ?_
  rintro e ww ⟨rfl, rfl⟩
  go_wp2_with fail
  refine (elookSeenRow_any K _ (HE.out _ HK3.out 27 (by decide))).mono ?_
  rintro e ww ⟨rfl, rfl⟩
  go_wp2_with fail
  go_ret
  exact ⟨rfl, HF3.out⟩
end Go.Proofs.YtkkcngppmhebbaaGreatDoor
