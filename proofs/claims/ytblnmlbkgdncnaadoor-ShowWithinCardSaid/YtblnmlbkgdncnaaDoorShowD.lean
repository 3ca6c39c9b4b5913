/-
  show: an expression, written.
-/
import Derived.Test.YtblnmlbkgdncnaaDoorShowE
set_option linter.unusedVariables false
set_option linter.unusedSimpArgs false
namespace Go.Proofs.YtblnmlbkgdncnaaDoor
open Go.RowKit

/-- where an expression's operand number o / 7 lies -/
abbrev ArgS (X rb ro len c : Nat) (z : Ex) (W : World) : Prop := W.cell? ⟨X, 6, none⟩ = some (.slice (some ⟨rb, ro, none⟩) len c) ∧ W.cell? ⟨rb, ro, none⟩ = some (.int .u8 z.k) ∧ W.cell? ⟨rb, ro + 1, none⟩ = some (.int .i64 z.n) ∧ W.cell? ⟨rb, ro + 2, none⟩ = some (.string ⟨z.nm.toArray⟩) ∧ W.cell? ⟨rb, ro + 3, none⟩ = some (.int .u8 z.t.k) ∧ W.cell? ⟨rb, ro + 4, none⟩ = some (.string ⟨z.t.nm.toArray⟩) ∧ W.cell? ⟨rb, ro + 5, none⟩ = some (.int .i64 z.t.n) ∧ W.cell? ⟨rb, ro + 6, none⟩ = some (.slice z.d.a z.args.length z.d.c)
abbrev ArgT (X rb ro len c : Nat) (z : Ex) (W : World) : Prop := W.cell? ⟨X, 6, none⟩ = some (.slice (some ⟨rb, ro, none⟩) len c) ∧ W.cell? ⟨rb, ro + 7, none⟩ = some (.int .u8 z.k) ∧ W.cell? ⟨rb, ro + 7 + 1, none⟩ = some (.int .i64 z.n) ∧ W.cell? ⟨rb, ro + 7 + 2, none⟩ = some (.string ⟨z.nm.toArray⟩) ∧ W.cell? ⟨rb, ro + 7 + 3, none⟩ = some (.int .u8 z.t.k) ∧ W.cell? ⟨rb, ro + 7 + 4, none⟩ = some (.string ⟨z.t.nm.toArray⟩) ∧ W.cell? ⟨rb, ro + 7 + 5, none⟩ = some (.int .i64 z.t.n) ∧ W.cell? ⟨rb, ro + 7 + 6, none⟩ = some (.slice z.d.a z.args.length z.d.c)
set_option maxHeartbeats 40000000 in
set_option maxRecDepth 100000 in
theorem sexpr_any (Bb : Nat) (wB : World) (HG : Hid (∀ W, Below Bb wB W → Globs W)) : ∀ (sz : Nat) (x : Ex), exCount x ≤ sz → ExIn wB Bb x → ExGood x → ExprC Bb wB x := by
  intro sz
  induction sz with
  | zero => intro x hx; have := exCount_pos x; omega
  | succ sz ih =>
  intro x hsz hI hg t W h hl
  obtain ⟨k, n, nm, ty, d, args⟩ := x
  obtain ⟨X, hX⟩ : ∃ X, W.heap.size = X := ⟨_, rfl⟩
  obtain ⟨w1, hw1⟩ : ∃ w1, W.alloc (.cells #[.int .u8 k, .int .i64 n, .string ⟨nm.toArray⟩, .int .u8 ty.k, .string ⟨ty.nm.toArray⟩, .int .i64 ty.n, .slice d.a args.length d.c] 33 (0, 0)) = w1 := ⟨_, rfl⟩
  have hb1 : Below W.heap.size W w1 := by rw [← hw1]; exact (Below.refl _ _).alloc (Nat.le_refl _) _
  have x1 : w1.heap[X]? = some (.cells #[.int .u8 k, .int .i64 n, .string ⟨nm.toArray⟩, .int .u8 ty.k, .string ⟨ty.nm.toArray⟩, .int .i64 ty.n, .slice d.a args.length d.c] 33 (0, 0)) := by rw [← hw1, ← hX]; exact heap_alloc_new W _
  have hXB : X ≠ Bb := by have := h.lt; omega
  have O1 := Lib.hid (TxOut.refl (h.keep hb1))
  have HW0 : Hid (Stay Bb W w1) := Lib.hid (.of hb1)
  have HRow : Hid (∀ W', Stay Bb w1 W' → W'.heap[X]? = some (.cells #[.int .u8 k, .int .i64 n, .string ⟨nm.toArray⟩, .int .u8 ty.k, .string ⟨ty.nm.toArray⟩, .int .i64 ty.n, .slice d.a args.length d.c] 33 (0, 0))) := Lib.hid fun W' hs => hs X _ x1 hXB (exObj_ne (.mk k n nm ty d args))
  have HN := Lib.hid (And.intro hX hw1)
  have HL := Lib.hid hl
  have HI := Lib.hid hI
  have HGd := Lib.hid hg
  have HSt := Lib.hid h
  have HIh : Hid (∀ y ∈ args, ExprC Bb wB y) := Lib.hid fun y hy => ih y (by
    have h1 := exCount_mem hy
    rw [exCount] at hsz
    omega) (hI.sub y hy) (hg.sub y hy)
  have hkk := hg.kind
  have hln := hg.len
  have hnmL := hI.nm
  have hnr := hI.n
  have htyO := hI.t
  dsimp only [Ex.k, Ex.args, Ex.n, Ex.nm, Ex.t] at hkk hln hnmL hnr htyO
  have HOk := Lib.hid (And.intro hnmL (And.intro hnr htyO))
  obtain ⟨T, hT⟩ : ∃ T, t ++ exText (.mk k n nm ty d args) = T := ⟨_, rfl⟩
  rw [hT]
  have HT := Lib.hid hT
  dsimp only [Ex.val, Ex.k, Ex.n, Ex.nm, Ex.t, Ex.d, Ex.args]
  clear hX hw1 hb1 x1 hXB h hl hI hg ih hT hnmL hnr htyO hsz
  have hcs : k = 1 ∨ k = 2 ∨ k = 3 ∨ k = 6 ∨ (k = 4 ∨ k = 5 ∨ k = 8 ∨ k = 9) ∨ k = 7 ∨ (10 ≤ k ∧ k ≤ 22) := by omega
  rcases hcs with rfl | rfl | rfl | rfl | h4 | rfl | hb
  · -- a number
    have hx : exText (.mk 1 n nm ty d args) = Lib.itoa n := by rw [exText]; rfl
    rw [hx] at HT HL
    have HIt := Lib.hid (fmtint_any n HOk.out.2.1.1 HOk.out.2.1.2)
    generalize Lib.itoa n = it at *
    clear hx hkk hln
    go_enter Tryd.func23, Tryd.ntmps23
    go_wp2_with fail
    simp only [HN.out.1, HN.out.2]
    refine wp_region_L (l := 6) (S := (fun W' => W'.cell? ⟨X, 1, none⟩ = some (.int .i64 n))) (by kernel_rfl) ?_ (fun hHeld => ?_)
    · ((try dsimp only); (exact cell_at (HRow.out _ (Stay.refl _ _)) 1))
    refine wpAnyL_take (i := 0) (oi := _) (v := ?v1) rfl (by kernel_rfl) (fun _ _ _ h => h) (by assumption) (Or.inl ⟨by kernel_rfl, ?y1⟩) ?r1
    case y1 => (intro w hSw; (try dsimp only at hSw); go_simp; all_goals with_reducible rfl)
    try simp only [List.getElem_toArray, List.getElem_cons_zero, List.getElem_cons_succ, Act.put, List.setIfInBounds_toArray, List.set_cons_zero, List.set_cons_succ]
    refine wpAnyL_take (i := 1) (oi := _) (v := ?v2) rfl (by kernel_rfl) (fun _ _ _ h => h) (by assumption) (Or.inl ⟨by kernel_rfl, ?y2⟩) ?r2
    case y2 => (intro w hSw; (try dsimp only at hSw); go_simp; all_goals with_reducible rfl)
    try simp only [List.getElem_toArray, List.getElem_cons_zero, List.getElem_cons_succ, Act.put, List.setIfInBounds_toArray, List.set_cons_zero, List.set_cons_succ]
    refine wpAnyL_take (i := 2) (oi := _) (v := ?v3) rfl (by kernel_rfl) (fun _ _ _ h => h) (by assumption) (Or.inl ⟨by kernel_rfl, ?y3⟩) ?r3
    case y3 => (intro w hSw; (try dsimp only at hSw); go_simp; all_goals with_reducible rfl)
    try simp only [List.getElem_toArray, List.getElem_cons_zero, List.getElem_cons_succ, Act.put, List.setIfInBounds_toArray, List.set_cons_zero, List.set_cons_succ]
    refine wpAnyL_take (i := 3) (oi := _) (v := ?v4) rfl (by kernel_rfl) (fun _ _ _ h => h) (by assumption) (Or.inl ⟨by kernel_rfl, ?y4⟩) ?r4
    case y4 => (intro w hSw; (try dsimp only at hSw); go_simp; all_goals with_reducible rfl)
    try simp only [List.getElem_toArray, List.getElem_cons_zero, List.getElem_cons_succ, Act.put, List.setIfInBounds_toArray, List.set_cons_zero, List.set_cons_succ]
    refine wpAnyL_take (i := 4) (oi := _) (v := ?v5) rfl (by kernel_rfl) (fun _ _ _ h => h) (by assumption) (Or.inl ⟨by kernel_rfl, ?y5⟩) ?r5
    case y5 => (intro w hSw; (try dsimp only at hSw); go_simp; all_goals with_reducible rfl)
    try simp only [List.getElem_toArray, List.getElem_cons_zero, List.getElem_cons_succ, Act.put, List.setIfInBounds_toArray, List.set_cons_zero, List.set_cons_succ]
    refine wpAnyL_step (j := 5) (o := _) (by kernel_rfl) rfl (fun K hK => ?_)
    (go_simp; go_at_call 41; refine (HIt.out _ (HG.out _ (O1.out.below (Below.refl _ _).drew).st.bel)).mono ?_; rintro e w2 ⟨rfl, hb2⟩; have O2 := Lib.hid ((O1.out.below (Below.refl _ _).drew).below hb2); clear hb2)
    refine hK _ _ ?_ (fun hHeld => ?_)
    · ((try dsimp only); (exact cell_at (HRow.out _ O2.out.stay) 1))
    clear hK K
    try simp only [List.getElem_toArray, List.getElem_cons_zero, List.getElem_cons_succ, Act.put, List.setIfInBounds_toArray, List.set_cons_zero, List.set_cons_succ]
    refine wpAnyL_last (j := 6) (o := _) (by kernel_rfl) rfl (by rfl) (by kernel_rfl) (fun K hK => ?_)
    (go_simp; go_at_call 25; refine (put_any' Bb wB t it _ rfl _ O2.out.st HL.out).mono ?_; rintro e w3 ⟨rfl, hO3⟩; have O3 := Lib.hid (O2.out.trans hO3); clear hO3)
    (refine hK _ _ ?_; clear hK K)
    try simp only [List.getElem_toArray, List.getElem_cons_zero, List.getElem_cons_succ, Act.put, List.setIfInBounds_toArray, List.set_cons_zero, List.set_cons_succ]
    clear hHeld O2
    have OF : Hid (TxOut Bb wB T W w3) := Lib.hid ((TxOut.mk O3.out.st (HW0.out.trans O3.out.stay)).eq (by rw [← HT.out]; skip))
    go_wp2_with fail
    go_end0
    exact ⟨rfl, OF.out⟩
  · -- nil
    have hx : exText (.mk 2 n nm ty d args) = [110, 105, 108] := by rw [exText]; rfl
    rw [hx] at HT HL
    clear hx hkk hln
    go_enter Tryd.func23, Tryd.ntmps23
    go_wp2_with fail
    simp only [HN.out.1, HN.out.2]
    refine (put_any' Bb wB t [110, 105, 108] _ rfl w1 O1.out.st (by have := HL.out; exact this)).mono ?_
    rintro e w2 ⟨rfl, hO⟩
    have O2 := Lib.hid (O1.out.trans hO)
    clear hO
    have OF : Hid (TxOut Bb wB T W w2) := Lib.hid ((TxOut.mk O2.out.st (HW0.out.trans O2.out.stay)).eq (by rw [← HT.out]; skip))
    go_wp2_with fail
    go_end0
    exact ⟨rfl, OF.out⟩
  · -- a name
    have hx : exText (.mk 3 n nm ty d args) = nm := by rw [exText]; rfl
    rw [hx] at HT HL
    clear hx hkk hln
    go_enter Tryd.func23, Tryd.ntmps23
    go_wp2_with fail
    simp only [HN.out.1, HN.out.2]
    refine wp_region_L (l := 5) (S := (fun W' => W'.cell? ⟨X, 2, none⟩ = some (.string ⟨nm.toArray⟩))) (by kernel_rfl) ?_ (fun hHeld => ?_)
    · ((try dsimp only); (exact cell_at (HRow.out _ (Stay.refl _ _)) 2))
    refine wpAnyL_take (i := 0) (oi := _) (v := ?v8) rfl (by kernel_rfl) (fun _ _ _ h => h) (by assumption) (Or.inl ⟨by kernel_rfl, ?y8⟩) ?r8
    case y8 => (intro w hSw; (try dsimp only at hSw); go_simp; all_goals with_reducible rfl)
    try simp only [List.getElem_toArray, List.getElem_cons_zero, List.getElem_cons_succ, Act.put, List.setIfInBounds_toArray, List.set_cons_zero, List.set_cons_succ]
    refine wpAnyL_take (i := 1) (oi := _) (v := ?v9) rfl (by kernel_rfl) (fun _ _ _ h => h) (by assumption) (Or.inl ⟨by kernel_rfl, ?y9⟩) ?r9
    case y9 => (intro w hSw; (try dsimp only at hSw); go_simp; all_goals with_reducible rfl)
    try simp only [List.getElem_toArray, List.getElem_cons_zero, List.getElem_cons_succ, Act.put, List.setIfInBounds_toArray, List.set_cons_zero, List.set_cons_succ]
    refine wpAnyL_take (i := 2) (oi := _) (v := ?v10) rfl (by kernel_rfl) (fun _ _ _ h => h) (by assumption) (Or.inl ⟨by kernel_rfl, ?y10⟩) ?r10
    case y10 => (intro w hSw; (try dsimp only at hSw); go_simp; all_goals with_reducible rfl)
    try simp only [List.getElem_toArray, List.getElem_cons_zero, List.getElem_cons_succ, Act.put, List.setIfInBounds_toArray, List.set_cons_zero, List.set_cons_succ]
    refine wpAnyL_take (i := 3) (oi := _) (v := ?v11) rfl (by kernel_rfl) (fun _ _ _ h => h) (by assumption) (Or.inl ⟨by kernel_rfl, ?y11⟩) ?r11
    case y11 => (intro w hSw; (try dsimp only at hSw); go_simp; all_goals with_reducible rfl)
    try simp only [List.getElem_toArray, List.getElem_cons_zero, List.getElem_cons_succ, Act.put, List.setIfInBounds_toArray, List.set_cons_zero, List.set_cons_succ]
    refine wpAnyL_take (i := 4) (oi := _) (v := ?v12) rfl (by kernel_rfl) (fun _ _ _ h => h) (by assumption) (Or.inl ⟨by kernel_rfl, ?y12⟩) ?r12
    case y12 => (intro w hSw; (try dsimp only at hSw); go_simp; all_goals with_reducible rfl)
    try simp only [List.getElem_toArray, List.getElem_cons_zero, List.getElem_cons_succ, Act.put, List.setIfInBounds_toArray, List.set_cons_zero, List.set_cons_succ]
    refine wpAnyL_last (j := 5) (o := _) (by kernel_rfl) rfl (by rfl) (by kernel_rfl) (fun K hK => ?_)
    (go_simp; go_at_call 25; refine (put_any' Bb wB t nm _ rfl _ (O1.out.below (Below.refl _ _).drew).st HL.out).mono ?_; rintro e w3 ⟨rfl, hO3⟩; have O3 := Lib.hid ((O1.out.below (Below.refl _ _).drew).trans hO3); clear hO3)
    (refine hK _ _ ?_; clear hK K)
    try simp only [List.getElem_toArray, List.getElem_cons_zero, List.getElem_cons_succ, Act.put, List.setIfInBounds_toArray, List.set_cons_zero, List.set_cons_succ]
    clear hHeld
    have OF : Hid (TxOut Bb wB T W w3) := Lib.hid ((TxOut.mk O3.out.st (HW0.out.trans O3.out.stay)).eq (by rw [← HT.out]; skip))
    go_wp2_with fail
    go_end0
    exact ⟨rfl, OF.out⟩
  · -- new
    have hx : exText (.mk 6 n nm ty d args) = [110, 101, 119, 32] ++ tyText ty := by rw [exText]; rfl
    rw [hx] at HT HL
    clear hx hkk hln
    go_enter Tryd.func23, Tryd.ntmps23
    go_wp2_with fail
    simp only [HN.out.1, HN.out.2]
    refine (put_any' Bb wB t [110, 101, 119, 32] _ rfl w1 O1.out.st (by have := HL.out; simp at this ⊢; omega)).mono ?_
    rintro e w2 ⟨rfl, hO⟩
    have O2 := Lib.hid (O1.out.trans hO)
    clear hO
    have row := HRow.out _ O2.out.stay
    have q0 := cell_at row 0
    have q1 := cell_at row 1
    have q2 := cell_at row 2
    have q3 := cell_at row 3
    have q4 := cell_at row 4
    have q5 := cell_at row 5
    have q6 := cell_at row 6
    simp only [List.getElem?_toArray, List.getElem?_cons_zero, List.getElem?_cons_succ] at q0 q1 q2 q3 q4 q5 q6
    clear row
    go_wp2_with fail
    refine (styp_any Bb wB (t ++ [110, 101, 119, 32]) ty w2 O2.out.st (HG.out _ O2.out.st.bel) HOk.out.2.2 (by have := HL.out; simp at this ⊢; omega)).mono ?_
    rintro e w3 ⟨rfl, hO3⟩
    have O3 := Lib.hid (O2.out.trans hO3)
    clear hO3 q0 q1 q2 q3 q4 q5 q6
    have OF : Hid (TxOut Bb wB T W w3) := Lib.hid ((TxOut.mk O3.out.st (HW0.out.trans O3.out.stay)).eq (by rw [← HT.out]; rw [List.append_assoc]))
    go_wp2_with fail
    go_end0
    exact ⟨rfl, OF.out⟩
  · -- operands
    obtain ⟨z, r, hzr⟩ : ∃ z r, args = z :: r := by
      cases args with
      | nil =>
        have h1 := hln.1
        have h2 := hln.2
        simp at h1 h2
        omega
      | cons z r => exact ⟨z, r, rfl⟩
    obtain ⟨rb, ro, hda, hrb, hrow⟩ := args_at HI.out (by rw [Ex.args, hzr]; simp)
    have hda2 : d.a = some ⟨rb, ro, none⟩ := hda
    have HZ : Hid (∀ W', Below Bb wB W' → ExAt W' rb ro z) := Lib.hid fun W' hb => by have := hrow W' hb 0 z (by rw [Ex.args, hzr]; rfl); simpa using this
    have HC0 := HIh.out z (by rw [hzr]; simp)
    by_cases h5 : k = 5
    · subst h5
      have hlen : args.length = 2 := hln.2 (Or.inl rfl)
      obtain ⟨y, rfl⟩ : ∃ y, r = [y] := by
        have h2 := hlen
        rw [hzr] at h2
        match r, h2 with
        | [y], _ => exact ⟨y, rfl⟩
      have HZ1 : Hid (∀ W', Below Bb wB W' → ExAt W' rb (ro + 7) y) := Lib.hid fun W' hb => by have := hrow W' hb 1 y (by rw [Ex.args, hzr]; rfl); simpa using this
      have HC1 := HIh.out y (by rw [hzr]; simp)
      have HS0 : Hid (∀ t' W', TxOut Bb wB t' w1 W' → ArgS X rb ro 2 d.c z W') := Lib.hid fun t' W' o => by
        have row := cell_at (HRow.out _ o.stay) 6
        rw [hda2, hlen] at row
        obtain ⟨z0, z1, z2, z3, z4, z5, z6⟩ := HZ.out W' o.st.bel
        exact ⟨row, z0, z1, z2, z3, z4, z5, z6⟩
      have HQ : Hid (∀ W', Stay Bb w1 W' → W'.cell? ⟨X, 6, none⟩ = some (.slice (some ⟨rb, ro, none⟩) 2 d.c)) := Lib.hid fun W' hs => by
        have row := cell_at (HRow.out _ hs) 6
        rw [hda2, hlen] at row
        exact row
      have hx : exText (.mk 5 n nm ty d args) = brB (sgnB z.k) (exText z) ++ ([91] ++ (exText y ++ [93])) := by rw [hzr, exText, exTexts, exTexts, exTexts]; rfl
      rw [hx] at HT HL
      clear hx hkk hln hda hda2 hrow hrb h4 hzr hlen
      go_enter Tryd.func23, Tryd.ntmps23
      go_wp2_with fail
      simp only [HN.out.1, HN.out.2]
      refine wp_region_L (l := 11) (S := (ArgS X rb ro 2 d.c z)) (by kernel_rfl) ?_ (fun hHeld => ?_)
      · ((try dsimp only); (exact HS0.out _ _ (O1.out.below (Below.refl _ _).drew)))
      refine wpAnyL_take (i := 0) (oi := _) (v := ?v14) rfl (by kernel_rfl) (fun _ _ _ h => h) (by assumption) (Or.inl ⟨by kernel_rfl, ?y14⟩) ?r14
      case y14 => (intro w hSw; (try dsimp only at hSw); go_simp; all_goals with_reducible rfl)
      try simp only [List.getElem_toArray, List.getElem_cons_zero, List.getElem_cons_succ, Act.put, List.setIfInBounds_toArray, List.set_cons_zero, List.set_cons_succ]
      refine wpAnyL_take (i := 1) (oi := _) (v := ?v15) rfl (by kernel_rfl) (fun _ _ _ h => h) (by assumption) (Or.inl ⟨by kernel_rfl, ?y15⟩) ?r15
      case y15 => (intro w hSw; (try dsimp only at hSw); go_simp; all_goals with_reducible rfl)
      try simp only [List.getElem_toArray, List.getElem_cons_zero, List.getElem_cons_succ, Act.put, List.setIfInBounds_toArray, List.set_cons_zero, List.set_cons_succ]
      refine wpAnyL_take (i := 2) (oi := _) (v := ?v16) rfl (by kernel_rfl) (fun _ _ _ h => h) (by assumption) (Or.inl ⟨by kernel_rfl, ?y16⟩) ?r16
      case y16 => (intro w hSw; (try dsimp only at hSw); go_simp; all_goals with_reducible rfl)
      try simp only [List.getElem_toArray, List.getElem_cons_zero, List.getElem_cons_succ, Act.put, List.setIfInBounds_toArray, List.set_cons_zero, List.set_cons_succ]
      refine wpAnyL_take (i := 3) (oi := _) (v := ?v17) rfl (by kernel_rfl) (fun _ _ _ h => h) (by assumption) (Or.inl ⟨by kernel_rfl, ?y17⟩) ?r17
      case y17 => (intro w hSw; (try dsimp only at hSw); go_simp; all_goals with_reducible rfl)
      try simp only [List.getElem_toArray, List.getElem_cons_zero, List.getElem_cons_succ, Act.put, List.setIfInBounds_toArray, List.set_cons_zero, List.set_cons_succ]
      refine wpAnyL_take (i := 4) (oi := _) (v := ?v18) rfl (by kernel_rfl) (fun _ _ _ h => h) (by assumption) (Or.inl ⟨by kernel_rfl, ?y18⟩) ?r18
      case y18 => (intro w hSw; (try dsimp only at hSw); go_simp; all_goals with_reducible rfl)
      try simp only [List.getElem_toArray, List.getElem_cons_zero, List.getElem_cons_succ, Act.put, List.setIfInBounds_toArray, List.set_cons_zero, List.set_cons_succ]
      refine wpAnyL_take (i := 5) (oi := _) (v := ?v19) rfl (by kernel_rfl) (fun _ _ _ h => h) (by assumption) (Or.inl ⟨by kernel_rfl, ?y19⟩) ?r19
      case y19 => (intro w hSw; (try dsimp only at hSw); go_simp; all_goals with_reducible rfl)
      try simp only [List.getElem_toArray, List.getElem_cons_zero, List.getElem_cons_succ, Act.put, List.setIfInBounds_toArray, List.set_cons_zero, List.set_cons_succ]
      refine wpAnyL_take (i := 6) (oi := _) (v := ?v20) rfl (by kernel_rfl) (fun _ _ _ h => h) (by assumption) (Or.inl ⟨by kernel_rfl, ?y20⟩) ?r20
      case y20 => (intro w hSw; (try dsimp only at hSw); go_simp; all_goals with_reducible rfl)
      try simp only [List.getElem_toArray, List.getElem_cons_zero, List.getElem_cons_succ, Act.put, List.setIfInBounds_toArray, List.set_cons_zero, List.set_cons_succ]
      refine wpAnyL_take (i := 7) (oi := _) (v := ?v21) rfl (by kernel_rfl) (fun _ _ _ h => h) (by assumption) (Or.inl ⟨by kernel_rfl, ?y21⟩) ?r21
      case y21 => (intro w hSw; (try dsimp only at hSw); go_simp; all_goals with_reducible rfl)
      try simp only [List.getElem_toArray, List.getElem_cons_zero, List.getElem_cons_succ, Act.put, List.setIfInBounds_toArray, List.set_cons_zero, List.set_cons_succ]
      refine wpAnyL_take (i := 8) (oi := _) (v := ?v22) rfl (by kernel_rfl) (fun _ _ _ h => h) (by assumption) (Or.inl ⟨by kernel_rfl, ?y22⟩) ?r22
      case y22 => (intro w hSw; (try dsimp only at hSw); go_simp; all_goals with_reducible rfl)
      try simp only [List.getElem_toArray, List.getElem_cons_zero, List.getElem_cons_succ, Act.put, List.setIfInBounds_toArray, List.set_cons_zero, List.set_cons_succ]
      refine wpAnyL_take (i := 9) (oi := _) (v := ?v23) rfl (by kernel_rfl) (fun _ _ _ h => h) (by assumption) (Or.inl ⟨by kernel_rfl, ?y23⟩) ?r23
      case y23 => (intro w hSw; (try dsimp only at hSw); go_simp; all_goals with_reducible rfl)
      try simp only [List.getElem_toArray, List.getElem_cons_zero, List.getElem_cons_succ, Act.put, List.setIfInBounds_toArray, List.set_cons_zero, List.set_cons_succ]
      refine wpAnyL_step (j := 10) (o := _) (by kernel_rfl) rfl (fun K hK => ?_)
      (go_simp; go_at_call 39; refine (ssigned_any z _).mono ?_; rintro e wa ⟨rfl, hba⟩; have OA := Lib.hid ((O1.out.below (Below.refl _ _).drew).below hba); clear hba)
      refine hK _ _ ?_ (fun hHeld => ?_)
      · ((try dsimp only); (exact HS0.out _ _ OA.out))
      clear hK K
      try simp only [List.getElem_toArray, List.getElem_cons_zero, List.getElem_cons_succ, Act.put, List.setIfInBounds_toArray, List.set_cons_zero, List.set_cons_succ]
      refine wpAnyL_last (j := 11) (o := _) (by kernel_rfl) rfl (by rfl) (by kernel_rfl) (fun K hK => ?_)
      (go_simp; go_at_call 42; refine (swithin_of Bb wB z _ HC0 (t) _ OA.out.st (by have := HL.out; simp at this ⊢; omega)).mono ?_; rintro e w2 ⟨rfl, hO⟩; have O2 := Lib.hid (OA.out.trans hO); clear hO)
      (refine hK _ _ ?_; clear hK K)
      try simp only [List.getElem_toArray, List.getElem_cons_zero, List.getElem_cons_succ, Act.put, List.setIfInBounds_toArray, List.set_cons_zero, List.set_cons_succ]
      clear hHeld OA
      go_wp2_with fail
      refine (put_any' Bb wB (t ++ brB (sgnB z.k) (exText z)) [91] _ rfl w2 O2.out.st (by have := HL.out; simp at this ⊢; omega)).mono ?_
      rintro e w3 ⟨rfl, hO⟩
      have O3 := Lib.hid (O2.out.trans hO)
      clear hO
      have q6 := HQ.out _ O3.out.stay
      obtain ⟨y0, y1, y2, y3, y4, y5, y6⟩ := HZ1.out _ O3.out.st.bel
      go_wp2_with fail
      refine (swithin_of Bb wB y false HC1 (t ++ brB (sgnB z.k) (exText z) ++ [91]) w3 O3.out.st (by have := HL.out; simp [brB] at this ⊢; omega)).mono ?_
      rintro e w4 ⟨rfl, hO⟩
      have O4 := Lib.hid (O3.out.trans hO)
      clear hO q6 y0 y1 y2 y3 y4 y5 y6
      go_wp2_with fail
      refine (put_any' Bb wB (t ++ brB (sgnB z.k) (exText z) ++ [91] ++ brB false (exText y)) [93] _ rfl w4 O4.out.st (by have := HL.out; simp [brB] at this ⊢; omega)).mono ?_
      rintro e w5 ⟨rfl, hO⟩
      have O5 := Lib.hid (O4.out.trans hO)
      clear hO
      have OF : Hid (TxOut Bb wB T W w5) := Lib.hid ((TxOut.mk O5.out.st (HW0.out.trans O5.out.stay)).eq (by rw [← HT.out]; simp [brB]))
      go_wp2_with fail
      go_end0
      exact ⟨rfl, OF.out⟩
    have hlen : args.length = 1 := hln.1 (by omega)
    obtain rfl : r = [] := by
      have h1 := hlen
      rw [hzr] at h1
      simpa using h1
    have HS0 : Hid (∀ t' W', TxOut Bb wB t' w1 W' → ArgS X rb ro 1 d.c z W') := Lib.hid fun t' W' o => by
      have row := cell_at (HRow.out _ o.stay) 6
      rw [hda2, hlen] at row
      obtain ⟨z0, z1, z2, z3, z4, z5, z6⟩ := HZ.out W' o.st.bel
      exact ⟨row, z0, z1, z2, z3, z4, z5, z6⟩
    have h489 : k = 4 ∨ k = 8 ∨ k = 9 := by omega
    clear hda hda2 hrow hrb h4 h5 hln hkk hlen
    rcases h489 with rfl | rfl | rfl
    · -- a field
      have hx : exText (.mk 4 n nm ty d args) = brB (sgnB z.k) (exText z) ++ (46 :: nm) := by rw [hzr, exText, exTexts, exTexts]; rfl
      rw [hx] at HT HL
      have c1 : ¬ (9223372036854775807 < 1 + nm.length) := by have h := HOk.out.1; unfold lenOk at h; omega
      clear hx hzr
      go_enter Tryd.func23, Tryd.ntmps23
      go_wp2_with fail
      simp only [HN.out.1, HN.out.2]
      refine wp_region_L (l := 11) (S := (ArgS X rb ro 1 d.c z)) (by kernel_rfl) ?_ (fun hHeld => ?_)
      · ((try dsimp only); (exact HS0.out _ _ (O1.out.below (Below.refl _ _).drew)))
      refine wpAnyL_take (i := 0) (oi := _) (v := ?v26) rfl (by kernel_rfl) (fun _ _ _ h => h) (by assumption) (Or.inl ⟨by kernel_rfl, ?y26⟩) ?r26
      case y26 => (intro w hSw; (try dsimp only at hSw); go_simp; all_goals with_reducible rfl)
      try simp only [List.getElem_toArray, List.getElem_cons_zero, List.getElem_cons_succ, Act.put, List.setIfInBounds_toArray, List.set_cons_zero, List.set_cons_succ]
      refine wpAnyL_take (i := 1) (oi := _) (v := ?v27) rfl (by kernel_rfl) (fun _ _ _ h => h) (by assumption) (Or.inl ⟨by kernel_rfl, ?y27⟩) ?r27
      case y27 => (intro w hSw; (try dsimp only at hSw); go_simp; all_goals with_reducible rfl)
      try simp only [List.getElem_toArray, List.getElem_cons_zero, List.getElem_cons_succ, Act.put, List.setIfInBounds_toArray, List.set_cons_zero, List.set_cons_succ]
      refine wpAnyL_take (i := 2) (oi := _) (v := ?v28) rfl (by kernel_rfl) (fun _ _ _ h => h) (by assumption) (Or.inl ⟨by kernel_rfl, ?y28⟩) ?r28
      case y28 => (intro w hSw; (try dsimp only at hSw); go_simp; all_goals with_reducible rfl)
      try simp only [List.getElem_toArray, List.getElem_cons_zero, List.getElem_cons_succ, Act.put, List.setIfInBounds_toArray, List.set_cons_zero, List.set_cons_succ]
      refine wpAnyL_take (i := 3) (oi := _) (v := ?v29) rfl (by kernel_rfl) (fun _ _ _ h => h) (by assumption) (Or.inl ⟨by kernel_rfl, ?y29⟩) ?r29
      case y29 => (intro w hSw; (try dsimp only at hSw); go_simp; all_goals with_reducible rfl)
      try simp only [List.getElem_toArray, List.getElem_cons_zero, List.getElem_cons_succ, Act.put, List.setIfInBounds_toArray, List.set_cons_zero, List.set_cons_succ]
      refine wpAnyL_take (i := 4) (oi := _) (v := ?v30) rfl (by kernel_rfl) (fun _ _ _ h => h) (by assumption) (Or.inl ⟨by kernel_rfl, ?y30⟩) ?r30
      case y30 => (intro w hSw; (try dsimp only at hSw); go_simp; all_goals with_reducible rfl)
      try simp only [List.getElem_toArray, List.getElem_cons_zero, List.getElem_cons_succ, Act.put, List.setIfInBounds_toArray, List.set_cons_zero, List.set_cons_succ]
      refine wpAnyL_take (i := 5) (oi := _) (v := ?v31) rfl (by kernel_rfl) (fun _ _ _ h => h) (by assumption) (Or.inl ⟨by kernel_rfl, ?y31⟩) ?r31
      case y31 => (intro w hSw; (try dsimp only at hSw); go_simp; all_goals with_reducible rfl)
      try simp only [List.getElem_toArray, List.getElem_cons_zero, List.getElem_cons_succ, Act.put, List.setIfInBounds_toArray, List.set_cons_zero, List.set_cons_succ]
      refine wpAnyL_take (i := 6) (oi := _) (v := ?v32) rfl (by kernel_rfl) (fun _ _ _ h => h) (by assumption) (Or.inl ⟨by kernel_rfl, ?y32⟩) ?r32
      case y32 => (intro w hSw; (try dsimp only at hSw); go_simp; all_goals with_reducible rfl)
      try simp only [List.getElem_toArray, List.getElem_cons_zero, List.getElem_cons_succ, Act.put, List.setIfInBounds_toArray, List.set_cons_zero, List.set_cons_succ]
      refine wpAnyL_take (i := 7) (oi := _) (v := ?v33) rfl (by kernel_rfl) (fun _ _ _ h => h) (by assumption) (Or.inl ⟨by kernel_rfl, ?y33⟩) ?r33
      case y33 => (intro w hSw; (try dsimp only at hSw); go_simp; all_goals with_reducible rfl)
      try simp only [List.getElem_toArray, List.getElem_cons_zero, List.getElem_cons_succ, Act.put, List.setIfInBounds_toArray, List.set_cons_zero, List.set_cons_succ]
      refine wpAnyL_take (i := 8) (oi := _) (v := ?v34) rfl (by kernel_rfl) (fun _ _ _ h => h) (by assumption) (Or.inl ⟨by kernel_rfl, ?y34⟩) ?r34
      case y34 => (intro w hSw; (try dsimp only at hSw); go_simp; all_goals with_reducible rfl)
      try simp only [List.getElem_toArray, List.getElem_cons_zero, List.getElem_cons_succ, Act.put, List.setIfInBounds_toArray, List.set_cons_zero, List.set_cons_succ]
      refine wpAnyL_take (i := 9) (oi := _) (v := ?v35) rfl (by kernel_rfl) (fun _ _ _ h => h) (by assumption) (Or.inl ⟨by kernel_rfl, ?y35⟩) ?r35
      case y35 => (intro w hSw; (try dsimp only at hSw); go_simp; all_goals with_reducible rfl)
      try simp only [List.getElem_toArray, List.getElem_cons_zero, List.getElem_cons_succ, Act.put, List.setIfInBounds_toArray, List.set_cons_zero, List.set_cons_succ]
      refine wpAnyL_step (j := 10) (o := _) (by kernel_rfl) rfl (fun K hK => ?_)
      (go_simp; go_at_call 39; refine (ssigned_any z _).mono ?_; rintro e wa ⟨rfl, hba⟩; have OA := Lib.hid ((O1.out.below (Below.refl _ _).drew).below hba); clear hba)
      refine hK _ _ ?_ (fun hHeld => ?_)
      · ((try dsimp only); (exact HS0.out _ _ OA.out))
      clear hK K
      try simp only [List.getElem_toArray, List.getElem_cons_zero, List.getElem_cons_succ, Act.put, List.setIfInBounds_toArray, List.set_cons_zero, List.set_cons_succ]
      refine wpAnyL_last (j := 11) (o := _) (by kernel_rfl) rfl (by rfl) (by kernel_rfl) (fun K hK => ?_)
      (go_simp; go_at_call 42; refine (swithin_of Bb wB z _ HC0 (t) _ OA.out.st (by have := HL.out; simp at this ⊢; omega)).mono ?_; rintro e w2 ⟨rfl, hO⟩; have O2 := Lib.hid (OA.out.trans hO); clear hO)
      (refine hK _ _ ?_; clear hK K)
      try simp only [List.getElem_toArray, List.getElem_cons_zero, List.getElem_cons_succ, Act.put, List.setIfInBounds_toArray, List.set_cons_zero, List.set_cons_succ]
      clear hHeld OA
      go_wp2_with fail
      refine wp_region_L (l := 6) (S := (fun W' => W'.cell? ⟨X, 2, none⟩ = some (.string ⟨nm.toArray⟩))) (by kernel_rfl) ?_ (fun hHeld => ?_)
      · ((try dsimp only); (exact cell_at (HRow.out _ O2.out.stay) 2))
      refine wpAnyL_take (i := 0) (oi := _) (v := ?v38) rfl (by kernel_rfl) (fun _ _ _ h => h) (by assumption) (Or.inl ⟨by kernel_rfl, ?y38⟩) ?r38
      case y38 => (intro w hSw; (try dsimp only at hSw); go_simp; all_goals with_reducible rfl)
      try simp only [List.getElem_toArray, List.getElem_cons_zero, List.getElem_cons_succ, Act.put, List.setIfInBounds_toArray, List.set_cons_zero, List.set_cons_succ]
      refine wpAnyL_take (i := 1) (oi := _) (v := ?v39) rfl (by kernel_rfl) (fun _ _ _ h => h) (by assumption) (Or.inl ⟨by kernel_rfl, ?y39⟩) ?r39
      case y39 => (intro w hSw; (try dsimp only at hSw); go_simp; all_goals with_reducible rfl)
      try simp only [List.getElem_toArray, List.getElem_cons_zero, List.getElem_cons_succ, Act.put, List.setIfInBounds_toArray, List.set_cons_zero, List.set_cons_succ]
      refine wpAnyL_take (i := 2) (oi := _) (v := ?v40) rfl (by kernel_rfl) (fun _ _ _ h => h) (by assumption) (Or.inl ⟨by kernel_rfl, ?y40⟩) ?r40
      case y40 => (intro w hSw; (try dsimp only at hSw); go_simp; all_goals with_reducible rfl)
      try simp only [List.getElem_toArray, List.getElem_cons_zero, List.getElem_cons_succ, Act.put, List.setIfInBounds_toArray, List.set_cons_zero, List.set_cons_succ]
      refine wpAnyL_take (i := 3) (oi := _) (v := ?v41) rfl (by kernel_rfl) (fun _ _ _ h => h) (by assumption) (Or.inl ⟨by kernel_rfl, ?y41⟩) ?r41
      case y41 => (intro w hSw; (try dsimp only at hSw); go_simp; all_goals with_reducible rfl)
      try simp only [List.getElem_toArray, List.getElem_cons_zero, List.getElem_cons_succ, Act.put, List.setIfInBounds_toArray, List.set_cons_zero, List.set_cons_succ]
      refine wpAnyL_take (i := 4) (oi := _) (v := ?v42) rfl (by kernel_rfl) (fun _ _ _ h => h) (by assumption) (Or.inl ⟨by kernel_rfl, ?y42⟩) ?r42
      case y42 => (intro w hSw; (try dsimp only at hSw); go_simp; all_goals with_reducible rfl)
      try simp only [List.getElem_toArray, List.getElem_cons_zero, List.getElem_cons_succ, Act.put, List.setIfInBounds_toArray, List.set_cons_zero, List.set_cons_succ]
      refine wpAnyL_take (i := 5) (oi := _) (v := ?v43) rfl (by kernel_rfl) (fun _ _ _ h => h) (by assumption) (Or.inl ⟨by kernel_rfl, ?y43⟩) ?r43
      case y43 => (intro w hSw; (try dsimp only at hSw); go_simp; all_goals with_reducible rfl)
      try simp only [List.getElem_toArray, List.getElem_cons_zero, List.getElem_cons_succ, Act.put, List.setIfInBounds_toArray, List.set_cons_zero, List.set_cons_succ]
      refine wpAnyL_last (j := 6) (o := _) (by kernel_rfl) rfl (by rfl) (by kernel_rfl) (fun K hK => ?_)
      (go_simp; go_at_call 25; refine (put_any' Bb wB (t ++ brB (sgnB z.k) (exText z)) (46 :: nm) _ (cat_b [46] nm) _ (O2.out.below (Below.refl _ _).drew).st (by have := HL.out; simp at this ⊢; omega)).mono ?_; rintro e w3 ⟨rfl, hO3⟩; have O3 := Lib.hid ((O2.out.below (Below.refl _ _).drew).trans hO3); clear hO3)
      (refine hK _ _ ?_; clear hK K)
      try simp only [List.getElem_toArray, List.getElem_cons_zero, List.getElem_cons_succ, Act.put, List.setIfInBounds_toArray, List.set_cons_zero, List.set_cons_succ]
      clear hHeld c1
      have OF : Hid (TxOut Bb wB T W w3) := Lib.hid ((TxOut.mk O3.out.st (HW0.out.trans O3.out.stay)).eq (by rw [← HT.out]; rw [List.append_assoc]))
      go_wp2_with fail
      go_end0
      exact ⟨rfl, OF.out⟩
    · -- a minus
      have HDg := Lib.hid (fun W' (hb : Below Bb wB W') (hs : Bb ≤ W'.heap.size) => sdigit_any Bb z W' ((HI.out.sub z (by rw [Ex.args, hzr]; simp)).keep hb (Nat.le_refl Bb)) (HGd.out.sub z (by rw [Ex.args, hzr]; simp)) hs)
      cases hbn : binB z.k with
      | true =>
        have hx : exText (.mk 8 n nm ty d args) = [45] ++ brB true (exText z) := by
          rw [hzr, exText, exTexts, exTexts]
          show [45] ++ brB (binB z.k || _) (exText z) = _
          rw [hbn]; rfl
        have CB : Hid (∀ W', Calls Tryd.prog 40 #[.int .u8 z.k] W' fun e w' => e = .returned (.bool true) ∧ W' = w') := Lib.hid fun W' => by have h := binary_any z.k W'; rwa [hbn] at h
        rw [hx] at HT HL
        clear hx hzr hbn HDg
        go_enter Tryd.func23, Tryd.ntmps23
        go_wp2_with fail
        simp only [HN.out.1, HN.out.2]
        refine (put_any' Bb wB t [45] _ rfl w1 O1.out.st (by have := HL.out; simp at this ⊢; omega)).mono ?_
        rintro e w2 ⟨rfl, hO⟩
        have O2 := Lib.hid (O1.out.trans hO)
        clear hO
        go_wp2_with fail
        refine wp_region_L (l := 18) (S := (ArgS X rb ro 1 d.c z)) (by kernel_rfl) ?_ (fun hHeld => ?_)
        · ((try dsimp only); (exact HS0.out _ _ (O2.out.below (Below.refl _ _).drew)))
        refine wpAnyL_take (i := 0) (oi := _) (v := ?v45) rfl (by kernel_rfl) (fun _ _ _ h => h) (by assumption) (Or.inl ⟨by kernel_rfl, ?y45⟩) ?r45
        case y45 => (intro w hSw; (try dsimp only at hSw); go_simp; all_goals with_reducible rfl)
        try simp only [List.getElem_toArray, List.getElem_cons_zero, List.getElem_cons_succ, Act.put, List.setIfInBounds_toArray, List.set_cons_zero, List.set_cons_succ]
        refine wpAnyL_take (i := 1) (oi := _) (v := ?v46) rfl (by kernel_rfl) (fun _ _ _ h => h) (by assumption) (Or.inl ⟨by kernel_rfl, ?y46⟩) ?r46
        case y46 => (intro w hSw; (try dsimp only at hSw); go_simp; all_goals with_reducible rfl)
        try simp only [List.getElem_toArray, List.getElem_cons_zero, List.getElem_cons_succ, Act.put, List.setIfInBounds_toArray, List.set_cons_zero, List.set_cons_succ]
        refine wpAnyL_take (i := 2) (oi := _) (v := ?v47) rfl (by kernel_rfl) (fun _ _ _ h => h) (by assumption) (Or.inl ⟨by kernel_rfl, ?y47⟩) ?r47
        case y47 => (intro w hSw; (try dsimp only at hSw); go_simp; all_goals with_reducible rfl)
        try simp only [List.getElem_toArray, List.getElem_cons_zero, List.getElem_cons_succ, Act.put, List.setIfInBounds_toArray, List.set_cons_zero, List.set_cons_succ]
        refine wpAnyL_take (i := 3) (oi := _) (v := ?v48) rfl (by kernel_rfl) (fun _ _ _ h => h) (by assumption) (Or.inl ⟨by kernel_rfl, ?y48⟩) ?r48
        case y48 => (intro w hSw; (try dsimp only at hSw); go_simp; all_goals with_reducible rfl)
        try simp only [List.getElem_toArray, List.getElem_cons_zero, List.getElem_cons_succ, Act.put, List.setIfInBounds_toArray, List.set_cons_zero, List.set_cons_succ]
        refine wpAnyL_take (i := 4) (oi := _) (v := ?v49) rfl (by kernel_rfl) (fun _ _ _ h => h) (by assumption) (Or.inl ⟨by kernel_rfl, ?y49⟩) ?r49
        case y49 => (intro w hSw; (try dsimp only at hSw); go_simp; all_goals with_reducible rfl)
        try simp only [List.getElem_toArray, List.getElem_cons_zero, List.getElem_cons_succ, Act.put, List.setIfInBounds_toArray, List.set_cons_zero, List.set_cons_succ]
        refine wpAnyL_take (i := 5) (oi := _) (v := ?v50) rfl (by kernel_rfl) (fun _ _ _ h => h) (by assumption) (Or.inl ⟨by kernel_rfl, ?y50⟩) ?r50
        case y50 => (intro w hSw; (try dsimp only at hSw); go_simp; all_goals with_reducible rfl)
        try simp only [List.getElem_toArray, List.getElem_cons_zero, List.getElem_cons_succ, Act.put, List.setIfInBounds_toArray, List.set_cons_zero, List.set_cons_succ]
        refine wpAnyL_take (i := 6) (oi := _) (v := ?v51) rfl (by kernel_rfl) (fun _ _ _ h => h) (by assumption) (Or.inl ⟨by kernel_rfl, ?y51⟩) ?r51
        case y51 => (intro w hSw; (try dsimp only at hSw); go_simp; all_goals with_reducible rfl)
        try simp only [List.getElem_toArray, List.getElem_cons_zero, List.getElem_cons_succ, Act.put, List.setIfInBounds_toArray, List.set_cons_zero, List.set_cons_succ]
        refine wpAnyL_take (i := 7) (oi := _) (v := ?v52) rfl (by kernel_rfl) (fun _ _ _ h => h) (by assumption) (Or.inl ⟨by kernel_rfl, ?y52⟩) ?r52
        case y52 => (intro w hSw; (try dsimp only at hSw); go_simp; all_goals with_reducible rfl)
        try simp only [List.getElem_toArray, List.getElem_cons_zero, List.getElem_cons_succ, Act.put, List.setIfInBounds_toArray, List.set_cons_zero, List.set_cons_succ]
        refine wpAnyL_take (i := 8) (oi := _) (v := ?v53) rfl (by kernel_rfl) (fun _ _ _ h => h) (by assumption) (Or.inl ⟨by kernel_rfl, ?y53⟩) ?r53
        case y53 => (intro w hSw; (try dsimp only at hSw); go_simp; all_goals with_reducible rfl)
        try simp only [List.getElem_toArray, List.getElem_cons_zero, List.getElem_cons_succ, Act.put, List.setIfInBounds_toArray, List.set_cons_zero, List.set_cons_succ]
        refine wpAnyL_take (i := 9) (oi := _) (v := ?v54) rfl (by kernel_rfl) (fun _ _ _ h => h) (by assumption) (Or.inl ⟨by kernel_rfl, ?y54⟩) ?r54
        case y54 => (intro w hSw; (try dsimp only at hSw); go_simp; all_goals with_reducible rfl)
        try simp only [List.getElem_toArray, List.getElem_cons_zero, List.getElem_cons_succ, Act.put, List.setIfInBounds_toArray, List.set_cons_zero, List.set_cons_succ]
        refine wpAnyL_step (j := 10) (o := _) (by kernel_rfl) rfl (fun K hK => ?_)
        (go_simp; go_at_call 40; refine (CB.out _).mono ?_; rintro e wa ⟨rfl, rfl⟩; have OA := Lib.hid (O2.out.below (Below.refl _ _).drew))
        refine hK _ _ ?_ (fun hHeld => ?_)
        · ((try dsimp only); (exact HS0.out _ _ OA.out))
        clear hK K
        try simp only [List.getElem_toArray, List.getElem_cons_zero, List.getElem_cons_succ, Act.put, List.setIfInBounds_toArray, List.set_cons_zero, List.set_cons_succ]
        refine wpAnyL_take (i := 11) (oi := _) (v := ?v56) rfl (by kernel_rfl) (fun _ _ _ h => h) (by assumption) (Or.inl ⟨by kernel_rfl, ?y56⟩) ?r56
        case y56 => (intro w hSw; (try dsimp only at hSw); go_simp; all_goals with_reducible rfl)
        try simp only [List.getElem_toArray, List.getElem_cons_zero, List.getElem_cons_succ, Act.put, List.setIfInBounds_toArray, List.set_cons_zero, List.set_cons_succ]
        refine wpAnyL_take (i := 12) (oi := _) (v := undef) rfl (by kernel_rfl) (fun _ _ _ h => h) (by assumption) (Or.inr ⟨by kernel_rfl, rfl⟩) ?_
        try simp only [List.getElem_toArray, List.getElem_cons_zero, List.getElem_cons_succ, Act.put, List.setIfInBounds_toArray, List.set_cons_zero, List.set_cons_succ]
        refine wpAnyL_take (i := 13) (oi := _) (v := undef) rfl (by kernel_rfl) (fun _ _ _ h => h) (by assumption) (Or.inr ⟨by kernel_rfl, rfl⟩) ?_
        try simp only [List.getElem_toArray, List.getElem_cons_zero, List.getElem_cons_succ, Act.put, List.setIfInBounds_toArray, List.set_cons_zero, List.set_cons_succ]
        refine wpAnyL_take (i := 14) (oi := _) (v := undef) rfl (by kernel_rfl) (fun _ _ _ h => h) (by assumption) (Or.inr ⟨by kernel_rfl, rfl⟩) ?_
        try simp only [List.getElem_toArray, List.getElem_cons_zero, List.getElem_cons_succ, Act.put, List.setIfInBounds_toArray, List.set_cons_zero, List.set_cons_succ]
        refine wpAnyL_take (i := 15) (oi := _) (v := undef) rfl (by kernel_rfl) (fun _ _ _ h => h) (by assumption) (Or.inr ⟨by kernel_rfl, rfl⟩) ?_
        try simp only [List.getElem_toArray, List.getElem_cons_zero, List.getElem_cons_succ, Act.put, List.setIfInBounds_toArray, List.set_cons_zero, List.set_cons_succ]
        refine wpAnyL_take (i := 16) (oi := _) (v := undef) rfl (by kernel_rfl) (fun _ _ _ h => h) (by assumption) (Or.inr ⟨by kernel_rfl, rfl⟩) ?_
        try simp only [List.getElem_toArray, List.getElem_cons_zero, List.getElem_cons_succ, Act.put, List.setIfInBounds_toArray, List.set_cons_zero, List.set_cons_succ]
        refine wpAnyL_take (i := 17) (oi := _) (v := ?v62) rfl (by kernel_rfl) (fun _ _ _ h => h) (by assumption) (Or.inl ⟨by kernel_rfl, ?y62⟩) ?r62
        case y62 => (intro w hSw; (try dsimp only at hSw); go_simp; all_goals with_reducible rfl)
        try simp only [List.getElem_toArray, List.getElem_cons_zero, List.getElem_cons_succ, Act.put, List.setIfInBounds_toArray, List.set_cons_zero, List.set_cons_succ]
        refine wpAnyL_last (j := 18) (o := _) (by kernel_rfl) rfl (by rfl) (by kernel_rfl) (fun K hK => ?_)
        (go_simp; go_at_call 42; refine (swithin_of Bb wB z _ HC0 (t ++ [45]) _ OA.out.st (by have := HL.out; simp at this ⊢; omega)).mono ?_; rintro e w3 ⟨rfl, hO⟩; have O3 := Lib.hid (OA.out.trans hO); clear hO)
        (refine hK _ _ ?_; clear hK K)
        try simp only [List.getElem_toArray, List.getElem_cons_zero, List.getElem_cons_succ, Act.put, List.setIfInBounds_toArray, List.set_cons_zero, List.set_cons_succ]
        clear hHeld OA
        have OF : Hid (TxOut Bb wB T W w3) := Lib.hid ((TxOut.mk O3.out.st (HW0.out.trans O3.out.stay)).eq (by rw [← HT.out]; rw [List.append_assoc]))
        go_wp2_with fail
        go_end0
        exact ⟨rfl, OF.out⟩
      | false =>
        have hx : exText (.mk 8 n nm ty d args) = [45] ++ brB (digEx z) (exText z) := by
          rw [hzr, exText, exTexts, exTexts]
          show [45] ++ brB (binB z.k || digExs [z]) (exText z) = _
          rw [hbn, digExs]; rfl
        have CB : Hid (∀ W', Calls Tryd.prog 40 #[.int .u8 z.k] W' fun e w' => e = .returned (.bool false) ∧ W' = w') := Lib.hid fun W' => by have h := binary_any z.k W'; rwa [hbn] at h
        rw [hx] at HT HL
        clear hx hzr hbn
        go_enter Tryd.func23, Tryd.ntmps23
        go_wp2_with fail
        simp only [HN.out.1, HN.out.2]
        refine (put_any' Bb wB t [45] _ rfl w1 O1.out.st (by have := HL.out; simp at this ⊢; omega)).mono ?_
        rintro e w2 ⟨rfl, hO⟩
        have O2 := Lib.hid (O1.out.trans hO)
        clear hO
        go_wp2_with fail
        refine wp_region_L (l := 18) (S := (ArgS X rb ro 1 d.c z)) (by kernel_rfl) ?_ (fun hHeld => ?_)
        · ((try dsimp only); (exact HS0.out _ _ (O2.out.below (Below.refl _ _).drew)))
        refine wpAnyL_take (i := 0) (oi := _) (v := ?v64) rfl (by kernel_rfl) (fun _ _ _ h => h) (by assumption) (Or.inl ⟨by kernel_rfl, ?y64⟩) ?r64
        case y64 => (intro w hSw; (try dsimp only at hSw); go_simp; all_goals with_reducible rfl)
        try simp only [List.getElem_toArray, List.getElem_cons_zero, List.getElem_cons_succ, Act.put, List.setIfInBounds_toArray, List.set_cons_zero, List.set_cons_succ]
        refine wpAnyL_take (i := 1) (oi := _) (v := ?v65) rfl (by kernel_rfl) (fun _ _ _ h => h) (by assumption) (Or.inl ⟨by kernel_rfl, ?y65⟩) ?r65
        case y65 => (intro w hSw; (try dsimp only at hSw); go_simp; all_goals with_reducible rfl)
        try simp only [List.getElem_toArray, List.getElem_cons_zero, List.getElem_cons_succ, Act.put, List.setIfInBounds_toArray, List.set_cons_zero, List.set_cons_succ]
        refine wpAnyL_take (i := 2) (oi := _) (v := ?v66) rfl (by kernel_rfl) (fun _ _ _ h => h) (by assumption) (Or.inl ⟨by kernel_rfl, ?y66⟩) ?r66
        case y66 => (intro w hSw; (try dsimp only at hSw); go_simp; all_goals with_reducible rfl)
        try simp only [List.getElem_toArray, List.getElem_cons_zero, List.getElem_cons_succ, Act.put, List.setIfInBounds_toArray, List.set_cons_zero, List.set_cons_succ]
        refine wpAnyL_take (i := 3) (oi := _) (v := ?v67) rfl (by kernel_rfl) (fun _ _ _ h => h) (by assumption) (Or.inl ⟨by kernel_rfl, ?y67⟩) ?r67
        case y67 => (intro w hSw; (try dsimp only at hSw); go_simp; all_goals with_reducible rfl)
        try simp only [List.getElem_toArray, List.getElem_cons_zero, List.getElem_cons_succ, Act.put, List.setIfInBounds_toArray, List.set_cons_zero, List.set_cons_succ]
        refine wpAnyL_take (i := 4) (oi := _) (v := ?v68) rfl (by kernel_rfl) (fun _ _ _ h => h) (by assumption) (Or.inl ⟨by kernel_rfl, ?y68⟩) ?r68
        case y68 => (intro w hSw; (try dsimp only at hSw); go_simp; all_goals with_reducible rfl)
        try simp only [List.getElem_toArray, List.getElem_cons_zero, List.getElem_cons_succ, Act.put, List.setIfInBounds_toArray, List.set_cons_zero, List.set_cons_succ]
        refine wpAnyL_take (i := 5) (oi := _) (v := ?v69) rfl (by kernel_rfl) (fun _ _ _ h => h) (by assumption) (Or.inl ⟨by kernel_rfl, ?y69⟩) ?r69
        case y69 => (intro w hSw; (try dsimp only at hSw); go_simp; all_goals with_reducible rfl)
        try simp only [List.getElem_toArray, List.getElem_cons_zero, List.getElem_cons_succ, Act.put, List.setIfInBounds_toArray, List.set_cons_zero, List.set_cons_succ]
        refine wpAnyL_take (i := 6) (oi := _) (v := ?v70) rfl (by kernel_rfl) (fun _ _ _ h => h) (by assumption) (Or.inl ⟨by kernel_rfl, ?y70⟩) ?r70
        case y70 => (intro w hSw; (try dsimp only at hSw); go_simp; all_goals with_reducible rfl)
        try simp only [List.getElem_toArray, List.getElem_cons_zero, List.getElem_cons_succ, Act.put, List.setIfInBounds_toArray, List.set_cons_zero, List.set_cons_succ]
        refine wpAnyL_take (i := 7) (oi := _) (v := ?v71) rfl (by kernel_rfl) (fun _ _ _ h => h) (by assumption) (Or.inl ⟨by kernel_rfl, ?y71⟩) ?r71
        case y71 => (intro w hSw; (try dsimp only at hSw); go_simp; all_goals with_reducible rfl)
        try simp only [List.getElem_toArray, List.getElem_cons_zero, List.getElem_cons_succ, Act.put, List.setIfInBounds_toArray, List.set_cons_zero, List.set_cons_succ]
        refine wpAnyL_take (i := 8) (oi := _) (v := ?v72) rfl (by kernel_rfl) (fun _ _ _ h => h) (by assumption) (Or.inl ⟨by kernel_rfl, ?y72⟩) ?r72
        case y72 => (intro w hSw; (try dsimp only at hSw); go_simp; all_goals with_reducible rfl)
        try simp only [List.getElem_toArray, List.getElem_cons_zero, List.getElem_cons_succ, Act.put, List.setIfInBounds_toArray, List.set_cons_zero, List.set_cons_succ]
        refine wpAnyL_take (i := 9) (oi := _) (v := ?v73) rfl (by kernel_rfl) (fun _ _ _ h => h) (by assumption) (Or.inl ⟨by kernel_rfl, ?y73⟩) ?r73
        case y73 => (intro w hSw; (try dsimp only at hSw); go_simp; all_goals with_reducible rfl)
        try simp only [List.getElem_toArray, List.getElem_cons_zero, List.getElem_cons_succ, Act.put, List.setIfInBounds_toArray, List.set_cons_zero, List.set_cons_succ]
        refine wpAnyL_step (j := 10) (o := _) (by kernel_rfl) rfl (fun K hK => ?_)
        (go_simp; go_at_call 40; refine (CB.out _).mono ?_; rintro e wa ⟨rfl, rfl⟩; have OA := Lib.hid (O2.out.below (Below.refl _ _).drew))
        refine hK _ _ ?_ (fun hHeld => ?_)
        · ((try dsimp only); (exact HS0.out _ _ OA.out))
        clear hK K
        try simp only [List.getElem_toArray, List.getElem_cons_zero, List.getElem_cons_succ, Act.put, List.setIfInBounds_toArray, List.set_cons_zero, List.set_cons_succ]
        refine wpAnyL_take (i := 11) (oi := _) (v := ?v75) rfl (by kernel_rfl) (fun _ _ _ h => h) (by assumption) (Or.inl ⟨by kernel_rfl, ?y75⟩) ?r75
        case y75 => (intro w hSw; (try dsimp only at hSw); go_simp; all_goals with_reducible rfl)
        try simp only [List.getElem_toArray, List.getElem_cons_zero, List.getElem_cons_succ, Act.put, List.setIfInBounds_toArray, List.set_cons_zero, List.set_cons_succ]
        refine wpAnyL_take (i := 12) (oi := _) (v := ?v76) rfl (by kernel_rfl) (fun _ _ _ h => h) (by assumption) (Or.inl ⟨by kernel_rfl, ?y76⟩) ?r76
        case y76 => (intro w hSw; (try dsimp only at hSw); go_simp; all_goals with_reducible rfl)
        try simp only [List.getElem_toArray, List.getElem_cons_zero, List.getElem_cons_succ, Act.put, List.setIfInBounds_toArray, List.set_cons_zero, List.set_cons_succ]
        refine wpAnyL_take (i := 13) (oi := _) (v := ?v77) rfl (by kernel_rfl) (fun _ _ _ h => h) (by assumption) (Or.inl ⟨by kernel_rfl, ?y77⟩) ?r77
        case y77 => (intro w hSw; (try dsimp only at hSw); go_simp; all_goals with_reducible rfl)
        try simp only [List.getElem_toArray, List.getElem_cons_zero, List.getElem_cons_succ, Act.put, List.setIfInBounds_toArray, List.set_cons_zero, List.set_cons_succ]
        refine wpAnyL_take (i := 14) (oi := _) (v := ?v78) rfl (by kernel_rfl) (fun _ _ _ h => h) (by assumption) (Or.inl ⟨by kernel_rfl, ?y78⟩) ?r78
        case y78 => (intro w hSw; (try dsimp only at hSw); go_simp; all_goals with_reducible rfl)
        try simp only [List.getElem_toArray, List.getElem_cons_zero, List.getElem_cons_succ, Act.put, List.setIfInBounds_toArray, List.set_cons_zero, List.set_cons_succ]
        refine wpAnyL_take (i := 15) (oi := _) (v := ?v79) rfl (by kernel_rfl) (fun _ _ _ h => h) (by assumption) (Or.inl ⟨by kernel_rfl, ?y79⟩) ?r79
        case y79 => (intro w hSw; (try dsimp only at hSw); go_simp; all_goals with_reducible rfl)
        try simp only [List.getElem_toArray, List.getElem_cons_zero, List.getElem_cons_succ, Act.put, List.setIfInBounds_toArray, List.set_cons_zero, List.set_cons_succ]
        refine wpAnyL_step (j := 16) (o := _) (by kernel_rfl) rfl (fun K hK => ?_)
        (go_simp; go_at_call 43; refine (HDg.out _ OA.out.st.bel (Nat.le_of_lt OA.out.st.lt)).mono ?_; rintro e wb ⟨rfl, hbb⟩; have OB := Lib.hid (OA.out.below hbb); clear hbb)
        refine hK _ _ ?_ (fun hHeld => ?_)
        · ((try dsimp only); (exact HS0.out _ _ OB.out))
        clear hK K
        try simp only [List.getElem_toArray, List.getElem_cons_zero, List.getElem_cons_succ, Act.put, List.setIfInBounds_toArray, List.set_cons_zero, List.set_cons_succ]
        refine wpAnyL_take (i := 17) (oi := _) (v := ?v81) rfl (by kernel_rfl) (fun _ _ _ h => h) (by assumption) (Or.inl ⟨by kernel_rfl, ?y81⟩) ?r81
        case y81 => (intro w hSw; (try dsimp only at hSw); go_simp; all_goals with_reducible rfl)
        try simp only [List.getElem_toArray, List.getElem_cons_zero, List.getElem_cons_succ, Act.put, List.setIfInBounds_toArray, List.set_cons_zero, List.set_cons_succ]
        refine wpAnyL_last (j := 18) (o := _) (by kernel_rfl) rfl (by rfl) (by kernel_rfl) (fun K hK => ?_)
        (go_simp; go_at_call 42; refine (swithin_of Bb wB z _ HC0 (t ++ [45]) _ OB.out.st (by have := HL.out; simp at this ⊢; omega)).mono ?_; rintro e w3 ⟨rfl, hO⟩; have O3 := Lib.hid (OB.out.trans hO); clear hO)
        (refine hK _ _ ?_; clear hK K)
        try simp only [List.getElem_toArray, List.getElem_cons_zero, List.getElem_cons_succ, Act.put, List.setIfInBounds_toArray, List.set_cons_zero, List.set_cons_succ]
        clear hHeld OA OB
        have OF : Hid (TxOut Bb wB T W w3) := Lib.hid ((TxOut.mk O3.out.st (HW0.out.trans O3.out.stay)).eq (by rw [← HT.out]; rw [List.append_assoc]))
        go_wp2_with fail
        go_end0
        exact ⟨rfl, OF.out⟩
    · -- a not
      have hx : exText (.mk 9 n nm ty d args) = [33] ++ brB (binB z.k) (exText z) := by rw [hzr, exText, exTexts, exTexts]; rfl
      rw [hx] at HT HL
      clear hx hzr
      go_enter Tryd.func23, Tryd.ntmps23
      go_wp2_with fail
      simp only [HN.out.1, HN.out.2]
      refine (put_any' Bb wB t [33] _ rfl w1 O1.out.st (by have := HL.out; simp at this ⊢; omega)).mono ?_
      rintro e w2 ⟨rfl, hO⟩
      have O2 := Lib.hid (O1.out.trans hO)
      clear hO
      go_wp2_with fail
      refine wp_region_L (l := 11) (S := (ArgS X rb ro 1 d.c z)) (by kernel_rfl) ?_ (fun hHeld => ?_)
      · ((try dsimp only); (exact HS0.out _ _ (O2.out.below (Below.refl _ _).drew)))
      refine wpAnyL_take (i := 0) (oi := _) (v := ?v83) rfl (by kernel_rfl) (fun _ _ _ h => h) (by assumption) (Or.inl ⟨by kernel_rfl, ?y83⟩) ?r83
      case y83 => (intro w hSw; (try dsimp only at hSw); go_simp; all_goals with_reducible rfl)
      try simp only [List.getElem_toArray, List.getElem_cons_zero, List.getElem_cons_succ, Act.put, List.setIfInBounds_toArray, List.set_cons_zero, List.set_cons_succ]
      refine wpAnyL_take (i := 1) (oi := _) (v := ?v84) rfl (by kernel_rfl) (fun _ _ _ h => h) (by assumption) (Or.inl ⟨by kernel_rfl, ?y84⟩) ?r84
      case y84 => (intro w hSw; (try dsimp only at hSw); go_simp; all_goals with_reducible rfl)
      try simp only [List.getElem_toArray, List.getElem_cons_zero, List.getElem_cons_succ, Act.put, List.setIfInBounds_toArray, List.set_cons_zero, List.set_cons_succ]
      refine wpAnyL_take (i := 2) (oi := _) (v := ?v85) rfl (by kernel_rfl) (fun _ _ _ h => h) (by assumption) (Or.inl ⟨by kernel_rfl, ?y85⟩) ?r85
      case y85 => (intro w hSw; (try dsimp only at hSw); go_simp; all_goals with_reducible rfl)
      try simp only [List.getElem_toArray, List.getElem_cons_zero, List.getElem_cons_succ, Act.put, List.setIfInBounds_toArray, List.set_cons_zero, List.set_cons_succ]
      refine wpAnyL_take (i := 3) (oi := _) (v := ?v86) rfl (by kernel_rfl) (fun _ _ _ h => h) (by assumption) (Or.inl ⟨by kernel_rfl, ?y86⟩) ?r86
      case y86 => (intro w hSw; (try dsimp only at hSw); go_simp; all_goals with_reducible rfl)
      try simp only [List.getElem_toArray, List.getElem_cons_zero, List.getElem_cons_succ, Act.put, List.setIfInBounds_toArray, List.set_cons_zero, List.set_cons_succ]
      refine wpAnyL_take (i := 4) (oi := _) (v := ?v87) rfl (by kernel_rfl) (fun _ _ _ h => h) (by assumption) (Or.inl ⟨by kernel_rfl, ?y87⟩) ?r87
      case y87 => (intro w hSw; (try dsimp only at hSw); go_simp; all_goals with_reducible rfl)
      try simp only [List.getElem_toArray, List.getElem_cons_zero, List.getElem_cons_succ, Act.put, List.setIfInBounds_toArray, List.set_cons_zero, List.set_cons_succ]
      refine wpAnyL_take (i := 5) (oi := _) (v := ?v88) rfl (by kernel_rfl) (fun _ _ _ h => h) (by assumption) (Or.inl ⟨by kernel_rfl, ?y88⟩) ?r88
      case y88 => (intro w hSw; (try dsimp only at hSw); go_simp; all_goals with_reducible rfl)
      try simp only [List.getElem_toArray, List.getElem_cons_zero, List.getElem_cons_succ, Act.put, List.setIfInBounds_toArray, List.set_cons_zero, List.set_cons_succ]
      refine wpAnyL_take (i := 6) (oi := _) (v := ?v89) rfl (by kernel_rfl) (fun _ _ _ h => h) (by assumption) (Or.inl ⟨by kernel_rfl, ?y89⟩) ?r89
      case y89 => (intro w hSw; (try dsimp only at hSw); go_simp; all_goals with_reducible rfl)
      try simp only [List.getElem_toArray, List.getElem_cons_zero, List.getElem_cons_succ, Act.put, List.setIfInBounds_toArray, List.set_cons_zero, List.set_cons_succ]
      refine wpAnyL_take (i := 7) (oi := _) (v := ?v90) rfl (by kernel_rfl) (fun _ _ _ h => h) (by assumption) (Or.inl ⟨by kernel_rfl, ?y90⟩) ?r90
      case y90 => (intro w hSw; (try dsimp only at hSw); go_simp; all_goals with_reducible rfl)
      try simp only [List.getElem_toArray, List.getElem_cons_zero, List.getElem_cons_succ, Act.put, List.setIfInBounds_toArray, List.set_cons_zero, List.set_cons_succ]
      refine wpAnyL_take (i := 8) (oi := _) (v := ?v91) rfl (by kernel_rfl) (fun _ _ _ h => h) (by assumption) (Or.inl ⟨by kernel_rfl, ?y91⟩) ?r91
      case y91 => (intro w hSw; (try dsimp only at hSw); go_simp; all_goals with_reducible rfl)
      try simp only [List.getElem_toArray, List.getElem_cons_zero, List.getElem_cons_succ, Act.put, List.setIfInBounds_toArray, List.set_cons_zero, List.set_cons_succ]
      refine wpAnyL_take (i := 9) (oi := _) (v := ?v92) rfl (by kernel_rfl) (fun _ _ _ h => h) (by assumption) (Or.inl ⟨by kernel_rfl, ?y92⟩) ?r92
      case y92 => (intro w hSw; (try dsimp only at hSw); go_simp; all_goals with_reducible rfl)
      try simp only [List.getElem_toArray, List.getElem_cons_zero, List.getElem_cons_succ, Act.put, List.setIfInBounds_toArray, List.set_cons_zero, List.set_cons_succ]
      refine wpAnyL_step (j := 10) (o := _) (by kernel_rfl) rfl (fun K hK => ?_)
      (go_simp; go_at_call 40; refine (binary_any z.k _).mono ?_; rintro e wa ⟨rfl, rfl⟩; have OA := Lib.hid (O2.out.below (Below.refl _ _).drew))
      refine hK _ _ ?_ (fun hHeld => ?_)
      · ((try dsimp only); (exact HS0.out _ _ OA.out))
      clear hK K
      try simp only [List.getElem_toArray, List.getElem_cons_zero, List.getElem_cons_succ, Act.put, List.setIfInBounds_toArray, List.set_cons_zero, List.set_cons_succ]
      refine wpAnyL_last (j := 11) (o := _) (by kernel_rfl) rfl (by rfl) (by kernel_rfl) (fun K hK => ?_)
      (go_simp; go_at_call 42; refine (swithin_of Bb wB z _ HC0 (t ++ [33]) _ OA.out.st (by have := HL.out; simp at this ⊢; omega)).mono ?_; rintro e w3 ⟨rfl, hO⟩; have O3 := Lib.hid (OA.out.trans hO); clear hO)
      (refine hK _ _ ?_; clear hK K)
      try simp only [List.getElem_toArray, List.getElem_cons_zero, List.getElem_cons_succ, Act.put, List.setIfInBounds_toArray, List.set_cons_zero, List.set_cons_succ]
      clear hHeld OA
      have OF : Hid (TxOut Bb wB T W w3) := Lib.hid ((TxOut.mk O3.out.st (HW0.out.trans O3.out.stay)).eq (by rw [← HT.out]; rw [List.append_assoc]))
      go_wp2_with fail
      go_end0
      exact ⟨rfl, OF.out⟩
  · -- a call
    rw [← HT.out]
    exact scall_any Bb wB n nm ty d args HIh.out HI.out t W HSt.out HL.out
  · -- a sign between two
    have hlen : args.length = 2 := hln.2 (Or.inr hb)
    obtain ⟨z, y, hzr⟩ : ∃ z y, args = [z, y] := by
      match args, hlen with
      | [z, y], _ => exact ⟨z, y, rfl⟩
    obtain ⟨rb, ro, hda, hrb, hrow⟩ := args_at HI.out (by rw [Ex.args, hzr]; simp)
    have hda2 : d.a = some ⟨rb, ro, none⟩ := hda
    have HZ : Hid (∀ W', Below Bb wB W' → ExAt W' rb ro z) := Lib.hid fun W' hb => by have := hrow W' hb 0 z (by rw [Ex.args, hzr]; rfl); simpa using this
    have HZ1 : Hid (∀ W', Below Bb wB W' → ExAt W' rb (ro + 7) y) := Lib.hid fun W' hb => by have := hrow W' hb 1 y (by rw [Ex.args, hzr]; rfl); simpa using this
    have HC0 := HIh.out z (by rw [hzr]; simp)
    have HC1 := HIh.out y (by rw [hzr]; simp)
    have HS0 : Hid (∀ t' W', TxOut Bb wB t' w1 W' → ArgS X rb ro 2 d.c z W') := Lib.hid fun t' W' o => by
      have row := cell_at (HRow.out _ o.stay) 6
      rw [hda2, hlen] at row
      obtain ⟨z0, z1, z2, z3, z4, z5, z6⟩ := HZ.out W' o.st.bel
      exact ⟨row, z0, z1, z2, z3, z4, z5, z6⟩
    have HS1 : Hid (∀ t' W', TxOut Bb wB t' w1 W' → ArgT X rb ro 2 d.c y W') := Lib.hid fun t' W' o => by
      have row := cell_at (HRow.out _ o.stay) 6
      rw [hda2, hlen] at row
      obtain ⟨z0, z1, z2, z3, z4, z5, z6⟩ := HZ1.out W' o.st.bel
      exact ⟨row, z0, z1, z2, z3, z4, z5, z6⟩
    have hx : exText (.mk k n nm ty d args) = brB (binB z.k) (exText z) ++ (([32] ++ (signOf k ++ [32])) ++ brB (binB y.k) (exText y)) := by
      rw [hzr, exText, exTexts, exTexts, exTexts, exPut]
      rw [if_neg (by omega), if_neg (by omega), if_neg (by omega), if_neg (by omega), if_neg (by omega), if_neg (by omega), if_neg (by omega), if_neg (by omega), if_neg (by omega)]
      rfl
    rw [hx] at HT HL
    have HSg := Lib.hid (ssign_any k hb)
    have hsl := signOf_len k
    generalize signOf k = sg at *
    have c1 : ¬ (9223372036854775807 < 1 + sg.length) := by omega
    have c2 : ¬ (9223372036854775807 < 1 + sg.length + 1) := by omega
    have k1 : (k == 1) = false := by simp; omega
    have k2 : (k == 2) = false := by simp; omega
    have k3 : (k == 3) = false := by simp; omega
    have k4 : (k == 4) = false := by simp; omega
    have k5 : (k == 5) = false := by simp; omega
    have k6 : (k == 6) = false := by simp; omega
    have k7 : (k == 7) = false := by simp; omega
    have k8 : (k == 8) = false := by simp; omega
    have k9 : (k == 9) = false := by simp; omega
    clear hx hkk hln hda hda2 hrow hrb hzr hlen hb hsl
    go_enter Tryd.func23, Tryd.ntmps23
    go_wp2_with fail
    simp only [HN.out.1, HN.out.2]
    clear k1 k2 k3 k4 k5 k6 k7 k8 k9
    refine wp_region_L (l := 11) (S := (ArgS X rb ro 2 d.c z)) (by kernel_rfl) ?_ (fun hHeld => ?_)
    · ((try dsimp only); (exact HS0.out _ _ (O1.out.below (Below.refl _ _).drew)))
    refine wpAnyL_take (i := 0) (oi := _) (v := ?v95) rfl (by kernel_rfl) (fun _ _ _ h => h) (by assumption) (Or.inl ⟨by kernel_rfl, ?y95⟩) ?r95
    case y95 => (intro w hSw; (try dsimp only at hSw); go_simp; all_goals with_reducible rfl)
    try simp only [List.getElem_toArray, List.getElem_cons_zero, List.getElem_cons_succ, Act.put, List.setIfInBounds_toArray, List.set_cons_zero, List.set_cons_succ]
    refine wpAnyL_take (i := 1) (oi := _) (v := ?v96) rfl (by kernel_rfl) (fun _ _ _ h => h) (by assumption) (Or.inl ⟨by kernel_rfl, ?y96⟩) ?r96
    case y96 => (intro w hSw; (try dsimp only at hSw); go_simp; all_goals with_reducible rfl)
    try simp only [List.getElem_toArray, List.getElem_cons_zero, List.getElem_cons_succ, Act.put, List.setIfInBounds_toArray, List.set_cons_zero, List.set_cons_succ]
    refine wpAnyL_take (i := 2) (oi := _) (v := ?v97) rfl (by kernel_rfl) (fun _ _ _ h => h) (by assumption) (Or.inl ⟨by kernel_rfl, ?y97⟩) ?r97
    case y97 => (intro w hSw; (try dsimp only at hSw); go_simp; all_goals with_reducible rfl)
    try simp only [List.getElem_toArray, List.getElem_cons_zero, List.getElem_cons_succ, Act.put, List.setIfInBounds_toArray, List.set_cons_zero, List.set_cons_succ]
    refine wpAnyL_take (i := 3) (oi := _) (v := ?v98) rfl (by kernel_rfl) (fun _ _ _ h => h) (by assumption) (Or.inl ⟨by kernel_rfl, ?y98⟩) ?r98
    case y98 => (intro w hSw; (try dsimp only at hSw); go_simp; all_goals with_reducible rfl)
    try simp only [List.getElem_toArray, List.getElem_cons_zero, List.getElem_cons_succ, Act.put, List.setIfInBounds_toArray, List.set_cons_zero, List.set_cons_succ]
    refine wpAnyL_take (i := 4) (oi := _) (v := ?v99) rfl (by kernel_rfl) (fun _ _ _ h => h) (by assumption) (Or.inl ⟨by kernel_rfl, ?y99⟩) ?r99
    case y99 => (intro w hSw; (try dsimp only at hSw); go_simp; all_goals with_reducible rfl)
    try simp only [List.getElem_toArray, List.getElem_cons_zero, List.getElem_cons_succ, Act.put, List.setIfInBounds_toArray, List.set_cons_zero, List.set_cons_succ]
    refine wpAnyL_take (i := 5) (oi := _) (v := ?v100) rfl (by kernel_rfl) (fun _ _ _ h => h) (by assumption) (Or.inl ⟨by kernel_rfl, ?y100⟩) ?r100
    case y100 => (intro w hSw; (try dsimp only at hSw); go_simp; all_goals with_reducible rfl)
    try simp only [List.getElem_toArray, List.getElem_cons_zero, List.getElem_cons_succ, Act.put, List.setIfInBounds_toArray, List.set_cons_zero, List.set_cons_succ]
    refine wpAnyL_take (i := 6) (oi := _) (v := ?v101) rfl (by kernel_rfl) (fun _ _ _ h => h) (by assumption) (Or.inl ⟨by kernel_rfl, ?y101⟩) ?r101
    case y101 => (intro w hSw; (try dsimp only at hSw); go_simp; all_goals with_reducible rfl)
    try simp only [List.getElem_toArray, List.getElem_cons_zero, List.getElem_cons_succ, Act.put, List.setIfInBounds_toArray, List.set_cons_zero, List.set_cons_succ]
    refine wpAnyL_take (i := 7) (oi := _) (v := ?v102) rfl (by kernel_rfl) (fun _ _ _ h => h) (by assumption) (Or.inl ⟨by kernel_rfl, ?y102⟩) ?r102
    case y102 => (intro w hSw; (try dsimp only at hSw); go_simp; all_goals with_reducible rfl)
    try simp only [List.getElem_toArray, List.getElem_cons_zero, List.getElem_cons_succ, Act.put, List.setIfInBounds_toArray, List.set_cons_zero, List.set_cons_succ]
    refine wpAnyL_take (i := 8) (oi := _) (v := ?v103) rfl (by kernel_rfl) (fun _ _ _ h => h) (by assumption) (Or.inl ⟨by kernel_rfl, ?y103⟩) ?r103
    case y103 => (intro w hSw; (try dsimp only at hSw); go_simp; all_goals with_reducible rfl)
    try simp only [List.getElem_toArray, List.getElem_cons_zero, List.getElem_cons_succ, Act.put, List.setIfInBounds_toArray, List.set_cons_zero, List.set_cons_succ]
    refine wpAnyL_take (i := 9) (oi := _) (v := ?v104) rfl (by kernel_rfl) (fun _ _ _ h => h) (by assumption) (Or.inl ⟨by kernel_rfl, ?y104⟩) ?r104
    case y104 => (intro w hSw; (try dsimp only at hSw); go_simp; all_goals with_reducible rfl)
    try simp only [List.getElem_toArray, List.getElem_cons_zero, List.getElem_cons_succ, Act.put, List.setIfInBounds_toArray, List.set_cons_zero, List.set_cons_succ]
    refine wpAnyL_step (j := 10) (o := _) (by kernel_rfl) rfl (fun K hK => ?_)
    (go_simp; go_at_call 40; refine (binary_any z.k _).mono ?_; rintro e wa ⟨rfl, rfl⟩; have OA := Lib.hid (O1.out.below (Below.refl _ _).drew))
    refine hK _ _ ?_ (fun hHeld => ?_)
    · ((try dsimp only); (exact HS0.out _ _ OA.out))
    clear hK K
    try simp only [List.getElem_toArray, List.getElem_cons_zero, List.getElem_cons_succ, Act.put, List.setIfInBounds_toArray, List.set_cons_zero, List.set_cons_succ]
    refine wpAnyL_last (j := 11) (o := _) (by kernel_rfl) rfl (by rfl) (by kernel_rfl) (fun K hK => ?_)
    (go_simp; go_at_call 42; refine (swithin_of Bb wB z _ HC0 (t) _ OA.out.st (by have := HL.out; simp at this ⊢; omega)).mono ?_; rintro e w2 ⟨rfl, hO⟩; have O2 := Lib.hid (OA.out.trans hO); clear hO)
    (refine hK _ _ ?_; clear hK K)
    try simp only [List.getElem_toArray, List.getElem_cons_zero, List.getElem_cons_succ, Act.put, List.setIfInBounds_toArray, List.set_cons_zero, List.set_cons_succ]
    clear hHeld OA
    go_wp2_with fail
    refine wp_region_L (l := 8) (S := (fun W' => W'.cell? ⟨X, 0, none⟩ = some (.int .u8 k))) (by kernel_rfl) ?_ (fun hHeld => ?_)
    · ((try dsimp only); (exact cell_at (HRow.out _ O2.out.stay) 0))
    refine wpAnyL_take (i := 0) (oi := _) (v := ?v107) rfl (by kernel_rfl) (fun _ _ _ h => h) (by assumption) (Or.inl ⟨by kernel_rfl, ?y107⟩) ?r107
    case y107 => (intro w hSw; (try dsimp only at hSw); go_simp; all_goals with_reducible rfl)
    try simp only [List.getElem_toArray, List.getElem_cons_zero, List.getElem_cons_succ, Act.put, List.setIfInBounds_toArray, List.set_cons_zero, List.set_cons_succ]
    refine wpAnyL_take (i := 1) (oi := _) (v := ?v108) rfl (by kernel_rfl) (fun _ _ _ h => h) (by assumption) (Or.inl ⟨by kernel_rfl, ?y108⟩) ?r108
    case y108 => (intro w hSw; (try dsimp only at hSw); go_simp; all_goals with_reducible rfl)
    try simp only [List.getElem_toArray, List.getElem_cons_zero, List.getElem_cons_succ, Act.put, List.setIfInBounds_toArray, List.set_cons_zero, List.set_cons_succ]
    refine wpAnyL_take (i := 2) (oi := _) (v := ?v109) rfl (by kernel_rfl) (fun _ _ _ h => h) (by assumption) (Or.inl ⟨by kernel_rfl, ?y109⟩) ?r109
    case y109 => (intro w hSw; (try dsimp only at hSw); go_simp; all_goals with_reducible rfl)
    try simp only [List.getElem_toArray, List.getElem_cons_zero, List.getElem_cons_succ, Act.put, List.setIfInBounds_toArray, List.set_cons_zero, List.set_cons_succ]
    refine wpAnyL_take (i := 3) (oi := _) (v := ?v110) rfl (by kernel_rfl) (fun _ _ _ h => h) (by assumption) (Or.inl ⟨by kernel_rfl, ?y110⟩) ?r110
    case y110 => (intro w hSw; (try dsimp only at hSw); go_simp; all_goals with_reducible rfl)
    try simp only [List.getElem_toArray, List.getElem_cons_zero, List.getElem_cons_succ, Act.put, List.setIfInBounds_toArray, List.set_cons_zero, List.set_cons_succ]
    refine wpAnyL_take (i := 4) (oi := _) (v := ?v111) rfl (by kernel_rfl) (fun _ _ _ h => h) (by assumption) (Or.inl ⟨by kernel_rfl, ?y111⟩) ?r111
    case y111 => (intro w hSw; (try dsimp only at hSw); go_simp; all_goals with_reducible rfl)
    try simp only [List.getElem_toArray, List.getElem_cons_zero, List.getElem_cons_succ, Act.put, List.setIfInBounds_toArray, List.set_cons_zero, List.set_cons_succ]
    refine wpAnyL_step (j := 5) (o := _) (by kernel_rfl) rfl (fun K hK => ?_)
    (go_simp; go_at_call 44; refine (HSg.out _).mono ?_; rintro e wa ⟨rfl, rfl⟩; have OA := Lib.hid (O2.out.below (Below.refl _ _).drew))
    refine hK _ _ ?_ (fun hHeld => ?_)
    · ((try dsimp only); (exact cell_at (HRow.out _ OA.out.stay) 0))
    clear hK K
    try simp only [List.getElem_toArray, List.getElem_cons_zero, List.getElem_cons_succ, Act.put, List.setIfInBounds_toArray, List.set_cons_zero, List.set_cons_succ]
    refine wpAnyL_take (i := 6) (oi := _) (v := ?v113) rfl (by kernel_rfl) (fun _ _ _ h => h) (by assumption) (Or.inl ⟨by kernel_rfl, ?y113⟩) ?r113
    case y113 => (intro w hSw; (try dsimp only at hSw); go_simp; all_goals with_reducible rfl)
    try simp only [List.getElem_toArray, List.getElem_cons_zero, List.getElem_cons_succ, Act.put, List.setIfInBounds_toArray, List.set_cons_zero, List.set_cons_succ]
    refine wpAnyL_take (i := 7) (oi := _) (v := ?v114) rfl (by kernel_rfl) (fun _ _ _ h => h) (by assumption) (Or.inl ⟨by kernel_rfl, ?y114⟩) ?r114
    case y114 => (intro w hSw; (try dsimp only at hSw); go_simp; all_goals with_reducible rfl)
    try simp only [List.getElem_toArray, List.getElem_cons_zero, List.getElem_cons_succ, Act.put, List.setIfInBounds_toArray, List.set_cons_zero, List.set_cons_succ]
    refine wpAnyL_last (j := 8) (o := _) (by kernel_rfl) rfl (by rfl) (by kernel_rfl) (fun K hK => ?_)
    (go_simp; go_at_call 25; refine (put_any' Bb wB (t ++ brB (binB z.k) (exText z)) (32 :: sg ++ [32]) _ (cat_b3 [32] sg [32]) _ OA.out.st (by have := HL.out; simp at this ⊢; omega)).mono ?_; rintro e w3 ⟨rfl, hO3⟩; have O3 := Lib.hid (OA.out.trans hO3); clear hO3)
    (refine hK _ _ ?_; clear hK K)
    try simp only [List.getElem_toArray, List.getElem_cons_zero, List.getElem_cons_succ, Act.put, List.setIfInBounds_toArray, List.set_cons_zero, List.set_cons_succ]
    clear hHeld c1 c2 OA
    go_wp2_with fail
    refine wp_region_L (l := 11) (S := (ArgT X rb ro 2 d.c y)) (by kernel_rfl) ?_ (fun hHeld => ?_)
    · ((try dsimp only); (exact HS1.out _ _ (O3.out.below (Below.refl _ _).drew)))
    refine wpAnyL_take (i := 0) (oi := _) (v := ?v116) rfl (by kernel_rfl) (fun _ _ _ h => h) (by assumption) (Or.inl ⟨by kernel_rfl, ?y116⟩) ?r116
    case y116 => (intro w hSw; (try dsimp only at hSw); go_simp; all_goals with_reducible rfl)
    try simp only [List.getElem_toArray, List.getElem_cons_zero, List.getElem_cons_succ, Act.put, List.setIfInBounds_toArray, List.set_cons_zero, List.set_cons_succ]
    refine wpAnyL_take (i := 1) (oi := _) (v := ?v117) rfl (by kernel_rfl) (fun _ _ _ h => h) (by assumption) (Or.inl ⟨by kernel_rfl, ?y117⟩) ?r117
    case y117 => (intro w hSw; (try dsimp only at hSw); go_simp; all_goals with_reducible rfl)
    try simp only [List.getElem_toArray, List.getElem_cons_zero, List.getElem_cons_succ, Act.put, List.setIfInBounds_toArray, List.set_cons_zero, List.set_cons_succ]
    refine wpAnyL_take (i := 2) (oi := _) (v := ?v118) rfl (by kernel_rfl) (fun _ _ _ h => h) (by assumption) (Or.inl ⟨by kernel_rfl, ?y118⟩) ?r118
    case y118 => (intro w hSw; (try dsimp only at hSw); go_simp; all_goals with_reducible rfl)
    try simp only [List.getElem_toArray, List.getElem_cons_zero, List.getElem_cons_succ, Act.put, List.setIfInBounds_toArray, List.set_cons_zero, List.set_cons_succ]
    refine wpAnyL_take (i := 3) (oi := _) (v := ?v119) rfl (by kernel_rfl) (fun _ _ _ h => h) (by assumption) (Or.inl ⟨by kernel_rfl, ?y119⟩) ?r119
    case y119 => (intro w hSw; (try dsimp only at hSw); go_simp; all_goals with_reducible rfl)
    try simp only [List.getElem_toArray, List.getElem_cons_zero, List.getElem_cons_succ, Act.put, List.setIfInBounds_toArray, List.set_cons_zero, List.set_cons_succ]
    refine wpAnyL_take (i := 4) (oi := _) (v := ?v120) rfl (by kernel_rfl) (fun _ _ _ h => h) (by assumption) (Or.inl ⟨by kernel_rfl, ?y120⟩) ?r120
    case y120 => (intro w hSw; (try dsimp only at hSw); go_simp; all_goals with_reducible rfl)
    try simp only [List.getElem_toArray, List.getElem_cons_zero, List.getElem_cons_succ, Act.put, List.setIfInBounds_toArray, List.set_cons_zero, List.set_cons_succ]
    refine wpAnyL_take (i := 5) (oi := _) (v := ?v121) rfl (by kernel_rfl) (fun _ _ _ h => h) (by assumption) (Or.inl ⟨by kernel_rfl, ?y121⟩) ?r121
    case y121 => (intro w hSw; (try dsimp only at hSw); go_simp; all_goals with_reducible rfl)
    try simp only [List.getElem_toArray, List.getElem_cons_zero, List.getElem_cons_succ, Act.put, List.setIfInBounds_toArray, List.set_cons_zero, List.set_cons_succ]
    refine wpAnyL_take (i := 6) (oi := _) (v := ?v122) rfl (by kernel_rfl) (fun _ _ _ h => h) (by assumption) (Or.inl ⟨by kernel_rfl, ?y122⟩) ?r122
    case y122 => (intro w hSw; (try dsimp only at hSw); go_simp; all_goals with_reducible rfl)
    try simp only [List.getElem_toArray, List.getElem_cons_zero, List.getElem_cons_succ, Act.put, List.setIfInBounds_toArray, List.set_cons_zero, List.set_cons_succ]
    refine wpAnyL_take (i := 7) (oi := _) (v := ?v123) rfl (by kernel_rfl) (fun _ _ _ h => h) (by assumption) (Or.inl ⟨by kernel_rfl, ?y123⟩) ?r123
    case y123 => (intro w hSw; (try dsimp only at hSw); go_simp; all_goals with_reducible rfl)
    try simp only [List.getElem_toArray, List.getElem_cons_zero, List.getElem_cons_succ, Act.put, List.setIfInBounds_toArray, List.set_cons_zero, List.set_cons_succ]
    refine wpAnyL_take (i := 8) (oi := _) (v := ?v124) rfl (by kernel_rfl) (fun _ _ _ h => h) (by assumption) (Or.inl ⟨by kernel_rfl, ?y124⟩) ?r124
    case y124 => (intro w hSw; (try dsimp only at hSw); go_simp; all_goals with_reducible rfl)
    try simp only [List.getElem_toArray, List.getElem_cons_zero, List.getElem_cons_succ, Act.put, List.setIfInBounds_toArray, List.set_cons_zero, List.set_cons_succ]
    refine wpAnyL_take (i := 9) (oi := _) (v := ?v125) rfl (by kernel_rfl) (fun _ _ _ h => h) (by assumption) (Or.inl ⟨by kernel_rfl, ?y125⟩) ?r125
    case y125 => (intro w hSw; (try dsimp only at hSw); go_simp; all_goals with_reducible rfl)
    try simp only [List.getElem_toArray, List.getElem_cons_zero, List.getElem_cons_succ, Act.put, List.setIfInBounds_toArray, List.set_cons_zero, List.set_cons_succ]
    refine wpAnyL_step (j := 10) (o := _) (by kernel_rfl) rfl (fun K hK => ?_)
    (go_simp; go_at_call 40; refine (binary_any y.k _).mono ?_; rintro e wa ⟨rfl, rfl⟩; have OA := Lib.hid (O3.out.below (Below.refl _ _).drew))
    refine hK _ _ ?_ (fun hHeld => ?_)
    · ((try dsimp only); (exact HS1.out _ _ OA.out))
    clear hK K
    try simp only [List.getElem_toArray, List.getElem_cons_zero, List.getElem_cons_succ, Act.put, List.setIfInBounds_toArray, List.set_cons_zero, List.set_cons_succ]
    refine wpAnyL_last (j := 11) (o := _) (by kernel_rfl) rfl (by rfl) (by kernel_rfl) (fun K hK => ?_)
    (go_simp; go_at_call 42; refine (swithin_of Bb wB y _ HC1 (t ++ brB (binB z.k) (exText z) ++ (32 :: sg ++ [32])) _ OA.out.st (by have := HL.out; simp at this ⊢; omega)).mono ?_; rintro e w4 ⟨rfl, hO⟩; have O4 := Lib.hid (OA.out.trans hO); clear hO)
    (refine hK _ _ ?_; clear hK K)
    try simp only [List.getElem_toArray, List.getElem_cons_zero, List.getElem_cons_succ, Act.put, List.setIfInBounds_toArray, List.set_cons_zero, List.set_cons_succ]
    clear hHeld OA
    have OF : Hid (TxOut Bb wB T W w4) := Lib.hid ((TxOut.mk O4.out.st (HW0.out.trans O4.out.stay)).eq (by rw [← HT.out]; simp))
    go_wp2_with fail
    go_end0
    exact ⟨rfl, OF.out⟩
end Go.Proofs.YtblnmlbkgdncnaaDoor
