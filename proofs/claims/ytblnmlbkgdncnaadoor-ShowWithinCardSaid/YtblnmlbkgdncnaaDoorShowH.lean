/-
  show: fields, written.
-/
import Derived.Test.YtblnmlbkgdncnaaDoorShowG
set_option linter.unusedVariables false
set_option linter.unusedSimpArgs false
namespace Go.Proofs.YtblnmlbkgdncnaaDoor
open Go.RowKit

/-- the texts behind the first one -/
def jrs (sep : List UInt8) : List (List UInt8) → List UInt8
  | [] => []
  | x :: r => sep ++ (x ++ jrs sep r)
theorem joined_jrs (sep : List UInt8) : ∀ (x : List UInt8) (r : List (List UInt8)), joined sep (x :: r) = x ++ jrs sep r
  | x, [] => by simp [joined, jrs]
  | x, y :: r => by rw [joined, joined_jrs sep y r, jrs]
theorem flObj_ne (f : Fl) : ∀ cs fz, (Obj.cells #[.string ⟨f.nm.toArray⟩, .int .u8 f.t.k, .string ⟨f.t.nm.toArray⟩, .int .i64 f.t.n] 77 (0, 0)) ≠ .cells cs 5 fz := fun cs fz e => by injection e with _ e; exact absurd e (by decide)

set_option maxHeartbeats 8000000 in
set_option maxRecDepth 100000 in
theorem sfields_any (Bb : Nat) (wB : World) (HG : Hid (∀ W, Below Bb wB W → Globs W)) (sep : List UInt8) (d : Hd) (l : List Fl) (t : List UInt8) (W : World) (h : TxSt Bb wB t W)
    (HF : Hid (∀ t' W', TxOut Bb wB t' W W' → FlsIn W' W'.heap.size d l)) (hl : t.length + (flsText sep l).length ≤ 140737488355328) :
    Calls Tryd.prog 26 #[.pointer (some ⟨Bb, 0, none⟩), .slice d.a l.length d.c, .string ⟨sep.toArray⟩] W fun e w' => e = .returned (.tuple #[]) ∧ TxOut Bb wB (t ++ flsText sep l) W w' := by
  obtain ⟨F, hF⟩ : ∃ F, t ++ flsText sep l = F := ⟨_, rfl⟩
  have HFl : Hid (F.length ≤ 140737488355328) := Lib.hid (by rw [← hF]; simpa using hl)
  rw [hF]
  have O0 := Lib.hid (TxOut.refl h)
  have hlen := (HF.out _ _ O0.out).len
  unfold lenOk at hlen
  have HR0 : Hid (t ++ (if (0 : Nat) = 0 then joined sep ((l.drop 0).map flText) else jrs sep ((l.drop 0).map flText)) = F) := Lib.hid (by rw [if_pos rfl, List.drop_zero]; exact hF)
  clear hF hl h
  go_enter Tryd.func26, Tryd.ntmps26
  go_wp2_with fail
  go_loopw [10] (fun ii wr => ∃ (j : Nat) (acc : List UInt8), ii = .int .i64 j ∧ j ≤ l.length ∧ Hid (TxOut Bb wB acc W wr) ∧ Hid (acc ++ (if j = 0 then joined sep ((l.drop j).map flText) else jrs sep ((l.drop j).map flText)) = F)) (fun ii _ => l.length - (intOf ii).toNat)
  case atStart => exact ⟨0, _, rfl, Nat.zero_le _, O0, HR0⟩
  case round =>
    obtain ⟨j, acc, rfl, hj, HO, hR⟩ := hrel
    clear O0 HR0
    have p2 : (0 : Int) ≤ (j : Int) := Int.natCast_nonneg _
    by_cases hlt : j < l.length
    · obtain ⟨f, hf⟩ : ∃ f, l[j]? = some f := ⟨_, List.getElem?_eq_getElem hlt⟩
      have hdrop : l.drop j = f :: l.drop (j + 1) := by
        have := List.drop_eq_getElem_cons hlt
        rw [List.getElem?_eq_getElem hlt] at hf
        injection hf with hf
        rw [this, hf]
      have hFl := HF.out _ _ HO.out
      obtain ⟨rb, ro, hda, hrb, hrow⟩ := hFl.row (by intro h0; rw [h0] at hlt; simp at hlt)
      obtain ⟨z0, z1, z2, z3⟩ := hrow j f hf
      have HOk := Lib.hid (hFl.sub f (List.mem_of_getElem? hf))
      obtain ⟨X6, hX6⟩ : ∃ X6, wr.heap.size = X6 := ⟨_, rfl⟩
      obtain ⟨w6, hw6⟩ : ∃ w6, wr.alloc (.cells #[.string ⟨f.nm.toArray⟩, .int .u8 f.t.k, .string ⟨f.t.nm.toArray⟩, .int .i64 f.t.n] 77 (0, 0)) = w6 := ⟨_, rfl⟩
      have hb6 : Below wr.heap.size wr w6 := by rw [← hw6]; exact (Below.refl _ _).alloc (Nat.le_refl _) _
      have x6 : w6.heap[X6]? = some (.cells #[.string ⟨f.nm.toArray⟩, .int .u8 f.t.k, .string ⟨f.t.nm.toArray⟩, .int .i64 f.t.n] 77 (0, 0)) := by rw [← hw6, ← hX6]; exact heap_alloc_new wr _
      have O6 := Lib.hid (TxOut.refl (HO.out.st.keep hb6))
      have HTr : Hid (∀ t' W', TxOut Bb wB t' w6 W' → TxOut Bb wB t' W W') := Lib.hid fun t' W' o => (HO.out.below hb6).trans o
      have hX6B : X6 ≠ Bb := by have := HO.out.st.lt; omega
      have HRow6 : Hid (∀ W', Stay Bb w6 W' → W'.heap[X6]? = some (.cells #[.string ⟨f.nm.toArray⟩, .int .u8 f.t.k, .string ⟨f.t.nm.toArray⟩, .int .i64 f.t.n] 77 (0, 0))) := Lib.hid fun W' hs => hs X6 _ x6 hX6B (flObj_ne f)
      have HN6 := Lib.hid (And.intro hX6 hw6)
      have p1 : (j : Int) < (l.length : Int) := by omega
      have c1 : ¬ (9223372036854775807 < f.nm.length + 1) := by have h := HOk.out.nm; unfold lenOk at h; omega
      have hR1 := Lib.hid hR.out
      rw [hdrop, List.map_cons] at hR1
      clear hb6 hX6B hX6 hw6 hrow hrb hdrop hf hR HO x6 hFl
      rw [hda]
      by_cases h0 : j = 0
      · have d0 : decide ((0 : Int) < (j : Int)) = false := by simp; omega
        have dn : decide (0 < j) = false := by simp; omega
        have HA : Hid (acc ++ flText f ++ (if j + 1 = 0 then joined sep ((l.drop (j + 1)).map flText) else jrs sep ((l.drop (j + 1)).map flText)) = F) := Lib.hid (by
          have h := hR1.out
          rw [if_pos h0, joined_jrs] at h
          rw [if_neg (by omega), List.append_assoc]
          exact h)
        clear h0
        go_wp2_with fail
        simp only [HN6.out.1, HN6.out.2]
        clear z0 z1 z2 z3
        refine wp_region_L (l := 6) (S := (fun W' => W'.cell? ⟨X6, 0, none⟩ = some (.string ⟨f.nm.toArray⟩))) (by kernel_rfl) ?_ (fun hHeld => ?_)
        · ((try dsimp only); (exact cell_at (HRow6.out _ O6.out.stay) 0))
        refine wpAnyL_take (i := 0) (oi := _) (v := ?v1) rfl (by kernel_rfl) (fun _ _ _ h => h) (by assumption) (Or.inl ⟨by kernel_rfl, ?y1⟩) ?r1
        case y1 => (intro w hSw; (try dsimp only at hSw); go_simp; all_goals with_reducible rfl)
        try simp only [List.getElem_toArray, List.getElem_cons_zero, List.getElem_cons_succ, Act.put, List.setIfInBounds_toArray, List.set_cons_zero, List.set_cons_succ]
        refine wpAnyL_take (i := 1) (oi := _) (v := ?v2) rfl (by kernel_rfl) (fun _ _ _ h => h) (by assumption) (Or.inl ⟨by kernel_rfl, ?y2⟩) ?r2
        case y2 => (intro w hSw; (try dsimp only at hSw); go_simp; all_goals with_reducible rfl)
        try simp only [List.getElem_toArray, List.getElem_cons_zero, List.getElem_cons_succ, Act.put, List.setIfInBounds_toArray, List.set_cons_zero, List.set_cons_succ]
        refine wpAnyL_take (i := 2) (oi := _) (v := ?v3) rfl (by kernel_rfl) (fun _ _ _ h => h) (by assumption) (Or.inl ⟨by kernel_rfl, ?y3⟩) ?r3
        case y3 => (intro w hSw; (try dsimp only at hSw); go_simp; all_goals with_reducible rfl)
        try simp only [List.getElem_toArray, List.getElem_cons_zero, List.getElem_cons_succ, Act.put, List.setIfInBounds_toArray, List.set_cons_zero, List.set_cons_succ]
        refine wpAnyL_take (i := 3) (oi := _) (v := ?v4) rfl (by kernel_rfl) (fun _ _ _ h => h) (by assumption) (Or.inl ⟨by kernel_rfl, ?y4⟩) ?r4
        case y4 => (intro w hSw; (try dsimp only at hSw); go_simp; all_goals with_reducible rfl)
        try simp only [List.getElem_toArray, List.getElem_cons_zero, List.getElem_cons_succ, Act.put, List.setIfInBounds_toArray, List.set_cons_zero, List.set_cons_succ]
        refine wpAnyL_take (i := 4) (oi := _) (v := ?v5) rfl (by kernel_rfl) (fun _ _ _ h => h) (by assumption) (Or.inl ⟨by kernel_rfl, ?y5⟩) ?r5
        case y5 => (intro w hSw; (try dsimp only at hSw); go_simp; all_goals with_reducible rfl)
        try simp only [List.getElem_toArray, List.getElem_cons_zero, List.getElem_cons_succ, Act.put, List.setIfInBounds_toArray, List.set_cons_zero, List.set_cons_succ]
        refine wpAnyL_take (i := 5) (oi := _) (v := ?v6) rfl (by kernel_rfl) (fun _ _ _ h => h) (by assumption) (Or.inl ⟨by kernel_rfl, ?y6⟩) ?r6
        case y6 => (intro w hSw; (try dsimp only at hSw); go_simp; all_goals with_reducible rfl)
        try simp only [List.getElem_toArray, List.getElem_cons_zero, List.getElem_cons_succ, Act.put, List.setIfInBounds_toArray, List.set_cons_zero, List.set_cons_succ]
        refine wpAnyL_last (j := 6) (o := _) (by kernel_rfl) rfl (by rfl) (by kernel_rfl) (fun K hK => ?_)
        (go_simp; go_at_call 25; refine (put_any' Bb wB (acc) (f.nm ++ [32]) _ (cat_b f.nm [32]) _ (O6.out.below (Below.refl _ _).drew).st (by have h1 := HA.out; have h2 := HFl.out; rw [← h1] at h2; simp [flText] at h2 ⊢; omega)).mono ?_; rintro e w8 ⟨rfl, hO8⟩; have O8 := Lib.hid ((O6.out.below (Below.refl _ _).drew).trans hO8); clear hO8)
        (refine hK _ _ ?_; clear hK K)
        try simp only [List.getElem_toArray, List.getElem_cons_zero, List.getElem_cons_succ, Act.put, List.setIfInBounds_toArray, List.set_cons_zero, List.set_cons_succ]
        clear hHeld
        have row := HRow6.out _ O8.out.stay
        have q1 := cell_at row 1
        have q2 := cell_at row 2
        have q3 := cell_at row 3
        simp only [List.getElem?_toArray, List.getElem?_cons_zero, List.getElem?_cons_succ] at q1 q2 q3
        clear row
        go_wp2_with fail
        refine (styp_any Bb wB (acc ++ (f.nm ++ [32])) f.t w8 O8.out.st (HG.out _ O8.out.st.bel) HOk.out.t (by have h1 := HA.out; have h2 := HFl.out; rw [← h1] at h2; simp [flText] at h2 ⊢; omega)).mono ?_
        rintro e w9 ⟨rfl, hO9⟩
        have O9 := Lib.hid (HTr.out _ _ ((O8.out.trans hO9).eq (show acc ++ (f.nm ++ [32]) ++ tyText f.t = acc ++ flText f by simp [flText])))
        clear hO9 q1 q2 q3
        go_wp2_with fail
        go_roundw
        case rel => exact ⟨j + 1, _, by go_num, by omega, O9, HA⟩
        case measure => simp [intOf]; omega
      · have d0 : decide ((0 : Int) < (j : Int)) = true := by simp; omega
        have dn : decide (0 < j) = true := by simp; omega
        have HA : Hid (acc ++ sep ++ flText f ++ (if j + 1 = 0 then joined sep ((l.drop (j + 1)).map flText) else jrs sep ((l.drop (j + 1)).map flText)) = F) := Lib.hid (by
          have h := hR1.out
          rw [if_neg h0, jrs] at h
          rw [if_neg (by omega), ← h]
          simp)
        clear h0
        go_wp2_with fail
        simp only [HN6.out.1, HN6.out.2]
        clear z0 z1 z2 z3
        refine (put_any' Bb wB acc sep _ rfl w6 O6.out.st (by have h1 := HA.out; have h2 := HFl.out; rw [← h1] at h2; simp at h2 ⊢; omega)).mono ?_
        rintro e w7 ⟨rfl, hO⟩
        have O7 := Lib.hid (O6.out.trans hO)
        clear hO
        go_wp2_with fail
        refine wp_region_L (l := 6) (S := (fun W' => W'.cell? ⟨X6, 0, none⟩ = some (.string ⟨f.nm.toArray⟩))) (by kernel_rfl) ?_ (fun hHeld => ?_)
        · ((try dsimp only); (exact cell_at (HRow6.out _ O7.out.stay) 0))
        refine wpAnyL_take (i := 0) (oi := _) (v := ?v8) rfl (by kernel_rfl) (fun _ _ _ h => h) (by assumption) (Or.inl ⟨by kernel_rfl, ?y8⟩) ?r8
        case y8 => (intro w hSw; (try dsimp only at hSw); go_simp; all_goals with_reducible rfl)
        try simp only [List.getElem_toArray, List.getElem_cons_zero, List.getElem_cons_succ, Act.put, List.setIfInBounds_toArray, List.set_cons_zero, List.set_cons_succ]
        refine wpAnyL_take (i := 1) (oi := _) (v := ?v9) rfl (by kernel_rfl) (fun _ _ _ h => h) (by assumption) (Or.inl ⟨by kernel_rfl, ?y9⟩) ?r9
        case y9 => (intro w hSw; (try dsimp only at hSw); go_simp; all_goals with_reducible rfl)
        try simp only [List.getElem_toArray, List.getElem_cons_zero, List.getElem_cons_succ, Act.put, List.setIfInBounds_toArray, List.set_cons_zero, List.set_cons_succ]
        refine wpAnyL_take (i := 2) (oi := _) (v := ?v10) rfl (by kernel_rfl) (fun _ _ _ h => h) (by assumption) (Or.inl ⟨by kernel_rfl, ?y10⟩) ?r10
        case y10 => (intro w hSw; (try dsimp only at hSw); go_simp; all_goals with_reducible rfl)
        try simp only [List.getElem_toArray, List.getElem_cons_zero, List.getElem_cons_succ, Act.put, List.setIfInBounds_toArray, List.set_cons_zero, List.set_cons_succ]
        refine wpAnyL_take (i := 3) (oi := _) (v := ?v11) rfl (by kernel_rfl) (fun _ _ _ h => h) (by assumption) (Or.inl ⟨by kernel_rfl, ?y11⟩) ?r11
        case y11 => (intro w hSw; (try dsimp only at hSw); go_simp; all_goals with_reducible rfl)
        try simp only [List.getElem_toArray, List.getElem_cons_zero, List.getElem_cons_succ, Act.put, List.setIfInBounds_toArray, List.set_cons_zero, List.set_cons_succ]
        refine wpAnyL_take (i := 4) (oi := _) (v := ?v12) rfl (by kernel_rfl) (fun _ _ _ h => h) (by assumption) (Or.inl ⟨by kernel_rfl, ?y12⟩) ?r12
        case y12 => (intro w hSw; (try dsimp only at hSw); go_simp; all_goals with_reducible rfl)
        try simp only [List.getElem_toArray, List.getElem_cons_zero, List.getElem_cons_succ, Act.put, List.setIfInBounds_toArray, List.set_cons_zero, List.set_cons_succ]
        refine wpAnyL_take (i := 5) (oi := _) (v := ?v13) rfl (by kernel_rfl) (fun _ _ _ h => h) (by assumption) (Or.inl ⟨by kernel_rfl, ?y13⟩) ?r13
        case y13 => (intro w hSw; (try dsimp only at hSw); go_simp; all_goals with_reducible rfl)
        try simp only [List.getElem_toArray, List.getElem_cons_zero, List.getElem_cons_succ, Act.put, List.setIfInBounds_toArray, List.set_cons_zero, List.set_cons_succ]
        refine wpAnyL_last (j := 6) (o := _) (by kernel_rfl) rfl (by rfl) (by kernel_rfl) (fun K hK => ?_)
        (go_simp; go_at_call 25; refine (put_any' Bb wB (acc ++ sep) (f.nm ++ [32]) _ (cat_b f.nm [32]) _ (O7.out.below (Below.refl _ _).drew).st (by have h1 := HA.out; have h2 := HFl.out; rw [← h1] at h2; simp [flText] at h2 ⊢; omega)).mono ?_; rintro e w8 ⟨rfl, hO8⟩; have O8 := Lib.hid ((O7.out.below (Below.refl _ _).drew).trans hO8); clear hO8)
        (refine hK _ _ ?_; clear hK K)
        try simp only [List.getElem_toArray, List.getElem_cons_zero, List.getElem_cons_succ, Act.put, List.setIfInBounds_toArray, List.set_cons_zero, List.set_cons_succ]
        clear hHeld
        have row := HRow6.out _ O8.out.stay
        have q1 := cell_at row 1
        have q2 := cell_at row 2
        have q3 := cell_at row 3
        simp only [List.getElem?_toArray, List.getElem?_cons_zero, List.getElem?_cons_succ] at q1 q2 q3
        clear row
        go_wp2_with fail
        refine (styp_any Bb wB (acc ++ sep ++ (f.nm ++ [32])) f.t w8 O8.out.st (HG.out _ O8.out.st.bel) HOk.out.t (by have h1 := HA.out; have h2 := HFl.out; rw [← h1] at h2; simp [flText] at h2 ⊢; omega)).mono ?_
        rintro e w9 ⟨rfl, hO9⟩
        have O9 := Lib.hid (HTr.out _ _ ((O8.out.trans hO9).eq (show acc ++ sep ++ (f.nm ++ [32]) ++ tyText f.t = acc ++ sep ++ flText f by simp [flText])))
        clear hO9 q1 q2 q3
        go_wp2_with fail
        go_roundw
        case rel => exact ⟨j + 1, _, by go_num, by omega, O9, HA⟩
        case measure => simp [intOf]; omega
    · obtain rfl : j = l.length := by omega
      have HA : Hid (acc = F) := Lib.hid (by
        have h := hR.out
        rw [List.drop_length, List.map_nil] at h
        by_cases h0 : l.length = 0
        · rw [if_pos h0] at h; simpa [joined] using h
        · rw [if_neg h0] at h; simpa [jrs] using h)
      obtain rfl := HA.out
      clear hR
      go_wp2_with fail
      go_end0
      exact ⟨rfl, HO.out⟩
end Go.Proofs.YtblnmlbkgdncnaaDoor
