/-
  show: a call, written.
-/
import Derived.Test.YtblnmlbkgdncnaaDoorShowC
set_option linter.unusedVariables false
set_option linter.unusedSimpArgs false
namespace Go.Proofs.YtblnmlbkgdncnaaDoor
open Go.RowKit

/-- the texts behind the first one -/
def jr : List (List UInt8) → List UInt8
  | [] => []
  | x :: r => [44, 32] ++ (x ++ jr r)
theorem joined_jr : ∀ (x : List UInt8) (r : List (List UInt8)), joined [44, 32] (x :: r) = x ++ jr r
  | x, [] => by simp [joined, jr]
  | x, y :: r => by rw [joined, joined_jr y r, jr]
theorem args_at {Bb : Nat} {w : World} {x : Ex} (h : ExIn w Bb x) (hne : x.args ≠ []) : ∃ rb ro, x.d.a = some ⟨rb, ro, none⟩ ∧ rb < Bb ∧ ∀ W', Below Bb w W' → ∀ i y, x.args[i]? = some y → ExAt W' rb (ro + i * 7) y := by
  obtain ⟨rb, ro, hda, hrb, hrow⟩ := h.row hne
  exact ⟨rb, ro, hda, hrb, fun W' hb i y hy => (hrow i y hy).keep fun o' => hb.cell (p := ⟨rb, o', none⟩) hrb⟩


set_option maxHeartbeats 8000000 in
set_option maxRecDepth 100000 in
theorem scall_any (Bb : Nat) (wB : World) (n : Int) (nm : List UInt8) (ty : Ty) (d : Hd) (args : List Ex) (hIh : ∀ y ∈ args, ExprC Bb wB y) (hI : ExIn wB Bb (.mk 7 n nm ty d args)) : ExprC Bb wB (.mk 7 n nm ty d args) := by
  intro t W h hl
  obtain ⟨k, hk7⟩ : ∃ k : Int, k = 7 := ⟨_, rfl⟩
  obtain ⟨X, hX⟩ : ∃ X, W.heap.size = X := ⟨_, rfl⟩
  obtain ⟨w1, hw1⟩ : ∃ w1, W.alloc (.cells #[.int .u8 7, .int .i64 n, .string ⟨nm.toArray⟩, .int .u8 ty.k, .string ⟨ty.nm.toArray⟩, .int .i64 ty.n, .slice d.a args.length d.c] 33 (0, 0)) = w1 := ⟨_, rfl⟩
  have hb1 : Below W.heap.size W w1 := by rw [← hw1]; exact (Below.refl _ _).alloc (Nat.le_refl _) _
  have x1 : w1.heap[X]? = some (.cells #[.int .u8 7, .int .i64 n, .string ⟨nm.toArray⟩, .int .u8 ty.k, .string ⟨ty.nm.toArray⟩, .int .i64 ty.n, .slice d.a args.length d.c] 33 (0, 0)) := by rw [← hw1, ← hX]; exact heap_alloc_new W _
  have hXB : X ≠ Bb := by have := h.lt; omega
  have O1 := Lib.hid (TxOut.refl (h.keep hb1))
  have HW0 : Hid (Stay Bb W w1) := Lib.hid (.of hb1)
  have HRow : Hid (∀ W', Stay Bb w1 W' → W'.heap[X]? = some (.cells #[.int .u8 7, .int .i64 n, .string ⟨nm.toArray⟩, .int .u8 ty.k, .string ⟨ty.nm.toArray⟩, .int .i64 ty.n, .slice d.a args.length d.c] 33 (0, 0))) := Lib.hid fun W' hs => hs X _ x1 hXB (exObj_ne (.mk 7 n nm ty d args))
  have HN := Lib.hid (And.intro hX hw1)
  have HL := Lib.hid hl
  have HI := Lib.hid hI
  have HIh := Lib.hid hIh
  have hnmL := hI.nm
  dsimp only [Ex.nm] at hnmL
  have hx : exText (.mk 7 n nm ty d args) = (nm ++ [40]) ++ (joined [44, 32] (exTexts args) ++ [41]) := by rw [exText]; rfl
  obtain ⟨T, hT⟩ : ∃ T, t ++ exText (.mk 7 n nm ty d args) = T := ⟨_, rfl⟩
  obtain ⟨F, hF⟩ : ∃ F, t ++ (nm ++ [40]) ++ joined [44, 32] (exTexts args) = F := ⟨_, rfl⟩
  have HFT : Hid (F ++ [41] = T) := Lib.hid (by rw [← hF, ← hT, hx]; simp)
  have HFl : Hid (F.length + 1 ≤ 140737488355328) := Lib.hid (by have := HL.out; rw [hx] at this; rw [← hF]; simp at this ⊢; omega)
  have HF := Lib.hid hF
  have hlen := hI.len
  unfold lenOk at hlen
  dsimp only [Ex.args] at hlen
  rw [hT]
  dsimp only [Ex.val, Ex.k, Ex.n, Ex.nm, Ex.t, Ex.d, Ex.args]
  have c1 : ¬ (9223372036854775807 < nm.length + 1) := by unfold lenOk at hnmL; omega
  have HLn : Hid (t.length + (nm ++ [40]).length ≤ 140737488355328) := Lib.hid (by have := HFl.out; rw [← HF.out] at this; simp at this ⊢; omega)
  clear hX hw1 hb1 x1 hXB h hl hI hT hnmL hF hIh hx HL hk7 k
  go_enter Tryd.func23, Tryd.ntmps23
  go_wp2_with fail
  simp only [HN.out.1, HN.out.2]
  refine wp_region_L (l := 6) (S := (fun W' => W'.cell? ⟨X, 2, none⟩ = some (.string ⟨nm.toArray⟩))) (by kernel_rfl) ?_ (fun hHeld => ?_)
  · ((try dsimp only); (exact cell_at (HRow.out _ (Stay.refl _ _)) 2))
  refine wpAnyL_take (i := 0) (oi := _) (v := ?v1) rfl (by kernel_rfl) (fun _ _ _ h => h) (by assumption) (Or.inl ⟨by kernel_rfl, ?y1⟩) ?r1
  case y1 => (intro w hSw; (try dsimp only at hSw); go_simp; all_goals with_reducible rfl)
  try simp only [List.getElem_toArray, List.getElem_cons_zero, List.getElem_cons_succ, Act.put, List.setIfInBounds_toArray, List.set_cons_zero, List.set_cons_succ]
  refine wpAnyL_take (i := 1) (oi := _) (v := ?v2) rfl (by kernel_rfl) (fun _ _ _ h => h) (by assumption) (Or.inl ⟨by kernel_rfl, ?y2⟩) ?r2
  case y2 => (intro w hSw; (try dsimp only at hSw); go_simp; all_goals with_reducible rfl)
  try simp only [List.getElem_toArray, List.getElem_cons_zero, List.getElem_cons_succ, Act.put, List.setIfInBounds_toArray, List.set_cons_zero, List.set_cons_succ]
  refine wpAnyL_take (i := 2) (oi := _) (v := ?v3) rfl (by kernel_rfl) (fun _ _ _ h => h) (by assumption) (Or.inl ⟨by kernel_rfl, ?y3⟩) ?r3
  case y3 => (intro w hSw; (try dsimp only at hSw); go_simp; all_goals with_reducible rfl)
  try simp only [List.getElem_toArray, List.getElem_cons_zero, List.getElem_cons_succ, Act.put, List.setIfInBounds_toArray, List.set_cons_zero, List.set_cons_succ]
  refine wpAnyL_take (i := 3) (oi := _) (v := ?v4) rfl (by kernel_rfl) (fun _ _ _ h => h) (by assumption) (Or.inl ⟨by kernel_rfl, ?y4⟩) ?r4
  case y4 => (intro w hSw; (try dsimp only at hSw); go_simp; all_goals with_reducible rfl)
  try simp only [List.getElem_toArray, List.getElem_cons_zero, List.getElem_cons_succ, Act.put, List.setIfInBounds_toArray, List.set_cons_zero, List.set_cons_succ]
  refine wpAnyL_take (i := 4) (oi := _) (v := ?v5) rfl (by kernel_rfl) (fun _ _ _ h => h) (by assumption) (Or.inl ⟨by kernel_rfl, ?y5⟩) ?r5
  case y5 => (intro w hSw; (try dsimp only at hSw); go_simp; all_goals with_reducible rfl)
  try simp only [List.getElem_toArray, List.getElem_cons_zero, List.getElem_cons_succ, Act.put, List.setIfInBounds_toArray, List.set_cons_zero, List.set_cons_succ]
  refine wpAnyL_take (i := 5) (oi := _) (v := ?v6) rfl (by kernel_rfl) (fun _ _ _ h => h) (by assumption) (Or.inl ⟨by kernel_rfl, ?y6⟩) ?r6
  case y6 => (intro w hSw; (try dsimp only at hSw); go_simp; all_goals with_reducible rfl)
  try simp only [List.getElem_toArray, List.getElem_cons_zero, List.getElem_cons_succ, Act.put, List.setIfInBounds_toArray, List.set_cons_zero, List.set_cons_succ]
  refine wpAnyL_last (j := 6) (o := _) (by kernel_rfl) rfl (by rfl) (by kernel_rfl) (fun K hK => ?_)
  (go_simp; go_at_call 25; refine (put_any' Bb wB t (nm ++ [40]) _ (cat_b nm [40]) _ (O1.out.below (Below.refl _ _).drew).st HLn.out).mono ?_; rintro e w2 ⟨rfl, hO2⟩; have O2 := Lib.hid ((O1.out.below (Below.refl _ _).drew).trans hO2); clear hO2)
  (refine hK _ _ ?_; clear hK K)
  try simp only [List.getElem_toArray, List.getElem_cons_zero, List.getElem_cons_succ, Act.put, List.setIfInBounds_toArray, List.set_cons_zero, List.set_cons_succ]
  clear hHeld c1
  have q6 := cell_at (HRow.out _ O2.out.stay) 6
  simp only [List.getElem?_toArray, List.getElem?_cons_zero, List.getElem?_cons_succ] at q6
  have HR0 : Hid ((t ++ (nm ++ [40])) ++ (if (0 : Nat) = 0 then joined [44, 32] (exTexts (args.drop 0)) else jr (exTexts (args.drop 0))) = F) := Lib.hid (by rw [if_pos rfl, List.drop_zero]; exact HF.out)
  go_wp2_with fail
  go_loopw [136] (fun ii wr => ∃ (j : Nat) (acc : List UInt8), ii = .int .i64 j ∧ j ≤ args.length ∧ Hid (TxOut Bb wB acc w1 wr) ∧ Hid (acc ++ (if j = 0 then joined [44, 32] (exTexts (args.drop j)) else jr (exTexts (args.drop j))) = F)) (fun ii _ => args.length - (intOf ii).toNat)
  case atStart => exact ⟨0, _, rfl, Nat.zero_le _, O2, HR0⟩
  case round =>
    obtain ⟨j, acc, rfl, hj, HO, hR⟩ := hrel
    clear O2 HR0
    have p2 : (0 : Int) ≤ (j : Int) := Int.natCast_nonneg _
    by_cases hlt : j < args.length
    · obtain ⟨y, hy⟩ : ∃ y, args[j]? = some y := ⟨_, List.getElem?_eq_getElem hlt⟩
      have hdrop : args.drop j = y :: args.drop (j + 1) := by
        have := List.drop_eq_getElem_cons hlt
        rw [List.getElem?_eq_getElem hlt] at hy
        injection hy with hy
        rw [this, hy]
      obtain ⟨rb, ro, hda, hrb, hrow⟩ := args_at (HI.out.keep HO.out.st.bel (Nat.le_refl Bb)) (by intro h0; have h1 : args = [] := h0; rw [h1] at hlt; simp at hlt)
      have hya := hrow wr (Below.refl _ _) j y hy
      have hda2 : d.a = some ⟨rb, ro, none⟩ := hda
      have HCy := HIh.out y (List.mem_of_getElem? hy)
      obtain ⟨z0, z1, z2, z3, z4, z5, z6⟩ := hya
      obtain ⟨X6, hX6⟩ : ∃ X6, wr.heap.size = X6 := ⟨_, rfl⟩
      obtain ⟨w6, hw6⟩ : ∃ w6, wr.alloc (.cells #[.int .u8 y.k, .int .i64 y.n, .string ⟨y.nm.toArray⟩, .int .u8 y.t.k, .string ⟨y.t.nm.toArray⟩, .int .i64 y.t.n, .slice y.d.a y.args.length y.d.c] 33 (0, 0)) = w6 := ⟨_, rfl⟩
      have hb6 : Below wr.heap.size wr w6 := by rw [← hw6]; exact (Below.refl _ _).alloc (Nat.le_refl _) _
      have x6 : w6.heap[X6]? = some (.cells #[.int .u8 y.k, .int .i64 y.n, .string ⟨y.nm.toArray⟩, .int .u8 y.t.k, .string ⟨y.t.nm.toArray⟩, .int .i64 y.t.n, .slice y.d.a y.args.length y.d.c] 33 (0, 0)) := by rw [← hw6, ← hX6]; exact heap_alloc_new wr _
      have O6 := Lib.hid (HO.out.below hb6)
      have hX6B : X6 ≠ Bb := by have := HO.out.st.lt; omega
      have HRow6 : Hid (∀ W', Stay Bb w6 W' → W'.heap[X6]? = some (.cells #[.int .u8 y.k, .int .i64 y.n, .string ⟨y.nm.toArray⟩, .int .u8 y.t.k, .string ⟨y.t.nm.toArray⟩, .int .i64 y.t.n, .slice y.d.a y.args.length y.d.c] 33 (0, 0))) := Lib.hid fun W' hs => hs X6 _ x6 hX6B (exObj_ne y)
      have HN6 := Lib.hid (And.intro hX6 hw6)
      have p1 : (j : Int) < (args.length : Int) := by omega
      have hR1 := Lib.hid hR.out
      rw [hdrop, exTexts] at hR1
      clear hb6 hX6B hX6 hw6 hrow hrb hdrop hy hda hR HO
      rw [hda2]
      by_cases h0 : j = 0
      · have d0 : decide ((0 : Int) < (j : Int)) = false := by simp; omega
        have dn : decide (0 < j) = false := by simp; omega
        have HA : Hid (acc ++ exText y ++ (if j + 1 = 0 then joined [44, 32] (exTexts (args.drop (j + 1))) else jr (exTexts (args.drop (j + 1)))) = F) := Lib.hid (by
          have h := hR1.out
          rw [if_pos h0, joined_jr] at h
          rw [if_neg (by omega), List.append_assoc]
          exact h)
        clear h0
        have r0 := cell_at x6 0
        have r1 := cell_at x6 1
        have r2 := cell_at x6 2
        have r3 := cell_at x6 3
        have r4 := cell_at x6 4
        have r5 := cell_at x6 5
        have r6 := cell_at x6 6
        simp only [List.getElem?_toArray, List.getElem?_cons_zero, List.getElem?_cons_succ] at r0 r1 r2 r3 r4 r5 r6
        clear x6
        go_wp2_with fail
        simp only [HN6.out.1, HN6.out.2]
        clear z0 z1 z2 z3 z4 z5 z6 q6
        refine (HCy (acc) _ O6.out.st (by have h1 := HA.out; have h2 := HFl.out; rw [← h1] at h2; simp at h2 ⊢; omega)).mono ?_
        rintro e w7 ⟨rfl, hO⟩
        have O7 := Lib.hid (O6.out.trans hO)
        clear hO r0 r1 r2 r3 r4 r5 r6
        go_wp2_with fail
        go_roundw
        case rel => exact ⟨j + 1, _, by go_num, by omega, O7, HA⟩
        case measure => simp [intOf]; omega
      · have d0 : decide ((0 : Int) < (j : Int)) = true := by simp; omega
        have dn : decide (0 < j) = true := by simp; omega
        have HA : Hid (acc ++ [44, 32] ++ exText y ++ (if j + 1 = 0 then joined [44, 32] (exTexts (args.drop (j + 1))) else jr (exTexts (args.drop (j + 1)))) = F) := Lib.hid (by
          have h := hR1.out
          rw [if_neg h0, jr] at h
          rw [if_neg (by omega), ← h]
          simp)
        clear h0 x6
        go_wp2_with fail
        simp only [HN6.out.1, HN6.out.2]
        clear z0 z1 z2 z3 z4 z5 z6 q6
        refine (put_any' Bb wB acc [44, 32] _ rfl w6 O6.out.st (by have h1 := HA.out; have h2 := HFl.out; rw [← h1] at h2; simp at h2 ⊢; omega)).mono ?_
        rintro e w8 ⟨rfl, hO⟩
        have O8 := Lib.hid (O6.out.trans hO)
        have x8 := HRow6.out _ hO.stay
        clear hO
        have r0 := cell_at x8 0
        have r1 := cell_at x8 1
        have r2 := cell_at x8 2
        have r3 := cell_at x8 3
        have r4 := cell_at x8 4
        have r5 := cell_at x8 5
        have r6 := cell_at x8 6
        simp only [List.getElem?_toArray, List.getElem?_cons_zero, List.getElem?_cons_succ] at r0 r1 r2 r3 r4 r5 r6
        clear x8
        go_wp2_with fail
        refine (HCy (acc ++ [44, 32]) _ O8.out.st (by have h1 := HA.out; have h2 := HFl.out; rw [← h1] at h2; simp at h2 ⊢; omega)).mono ?_
        rintro e w7 ⟨rfl, hO⟩
        have O7 := Lib.hid (O8.out.trans hO)
        clear hO r0 r1 r2 r3 r4 r5 r6
        go_wp2_with fail
        go_roundw
        case rel => exact ⟨j + 1, _, by go_num, by omega, O7, HA⟩
        case measure => simp [intOf]; omega
    · obtain rfl : j = args.length := by omega
      have HA : Hid (acc = F) := Lib.hid (by
        have h := hR.out
        rw [List.drop_length, exTexts] at h
        by_cases h0 : args.length = 0
        · rw [if_pos h0] at h; simpa [joined] using h
        · rw [if_neg h0] at h; simpa [jr] using h)
      obtain rfl := HA.out
      clear hR
      go_wp2_with fail
      refine (put_any' Bb wB acc [41] _ rfl wr HO.out.st (by have := HFl.out; simpa using this)).mono ?_
      rintro e w3 ⟨rfl, hO⟩
      have O3 := Lib.hid (HO.out.trans hO)
      clear hO
      have OF : Hid (TxOut Bb wB T W w3) := Lib.hid ((TxOut.mk O3.out.st (HW0.out.trans O3.out.stay)).eq HFT.out)
      go_wp2_with fail
      go_end0
      exact ⟨rfl, OF.out⟩
end Go.Proofs.YtblnmlbkgdncnaaDoor
