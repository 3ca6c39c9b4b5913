/-
  The comparing function of serial.Order walked.
-/
import Derived.Test.YtjaegddnikkibaaGreatDoorOrdCmp
set_option linter.unusedVariables false
set_option linter.unusedSimpArgs false
namespace Go.Proofs.YtjaegddnikkibaaGreatDoor
open Go.RowKit Go.Sort

/-- the cells that the comparing reads -/
abbrev OrdS (n0 : Nat) (w0 : World) (LB b off n c i j : Nat) (x y : Att) (w' : World) : Prop :=
  Below n0 w0 w' ∧ w'.cell? ⟨LB, 0, none⟩ = some (.slice (some ⟨b, off, none⟩) n c) ∧
  (
  w'.cell? ⟨b, off + i * 8, none⟩ = some (.int .i64 x.th) ∧ w'.cell? ⟨b, off + i * 8 + 1, none⟩ = some (.int .u8 x.kd) ∧ w'.cell? ⟨b, off + i * 8 + 2, none⟩ = some (.int .i64 x.bg) ∧ w'.cell? ⟨b, off + i * 8 + 3, none⟩ = some (.int .i64 x.en) ∧ w'.cell? ⟨b, off + i * 8 + 4, none⟩ = some (.int .i64 x.ck) ∧ w'.cell? ⟨b, off + i * 8 + 5, none⟩ = some (.int .i64 x.pl) ∧ w'.cell? ⟨b, off + i * 8 + 6, none⟩ = some (.bool x.wr) ∧ w'.cell? ⟨b, off + i * 8 + 7, none⟩ = some (.slice x.dA x.evs.length x.dc)
  ) ∧
  w'.cell? ⟨b, off + j * 8, none⟩ = some (.int .i64 y.th) ∧ w'.cell? ⟨b, off + j * 8 + 1, none⟩ = some (.int .u8 y.kd) ∧ w'.cell? ⟨b, off + j * 8 + 2, none⟩ = some (.int .i64 y.bg) ∧ w'.cell? ⟨b, off + j * 8 + 3, none⟩ = some (.int .i64 y.en) ∧ w'.cell? ⟨b, off + j * 8 + 4, none⟩ = some (.int .i64 y.ck) ∧ w'.cell? ⟨b, off + j * 8 + 5, none⟩ = some (.int .i64 y.pl) ∧ w'.cell? ⟨b, off + j * 8 + 6, none⟩ = some (.bool y.wr) ∧ w'.cell? ⟨b, off + j * 8 + 7, none⟩ = some (.slice y.dA y.evs.length y.dc)
theorem ordS_of {w w' : World} {LB b off n c i j : Nat} {x y : Att} (hbox : w.cell? ⟨LB, 0, none⟩ = some (.slice (some ⟨b, off, none⟩) n c)) (hb : b < w.heap.size) (ax : AttAt w b (off + i * 8) x) (ay : AttAt w b (off + j * 8) y)
    (h : Below w.heap.size w w') : OrdS w.heap.size w LB b off n c i j x y w' :=
  ⟨h, (h.cell (p := ⟨LB, 0, none⟩) (World.block_lt_of_cell? w _ hbox)).trans hbox,
    have a := ax.keep (fun o' => h.cell (p := ⟨b, o', none⟩) hb); ⟨a.c0, a.c1, a.c2, a.c3, a.c4, a.c5, a.c6, a.c7⟩,
    have a := ay.keep (fun o' => h.cell (p := ⟨b, o', none⟩) hb); ⟨a.c0, a.c1, a.c2, a.c3, a.c4, a.c5, a.c6, a.c7⟩⟩

set_option maxHeartbeats 4000000 in
set_option maxRecDepth 100000 in
theorem order1_any (LB b off n c i j : Nat) (x y : Att) (w : World) (hbox : w.cell? ⟨LB, 0, none⟩ = some (.slice (some ⟨b, off, none⟩) n c)) (hb : b < w.heap.size) (ax : AttAt w b (off + i * 8) x) (ay : AttAt w b (off + j * 8) y) (hi : i < n) (hj : j < n) :
    Calls Tryz.prog 25 #[.int .i64 i, .int .i64 j, .pointer (some ⟨LB, 0, none⟩)] w fun e w' => e = .returned (.int .i64 (ordC x y)) ∧ Below w.heap.size w w' := by
  have HS := Lib.hid (fun w' h => ordS_of (w' := w') hbox hb ax ay h)
  clear hbox hb ax ay
  have p1 : (i : Int) < (n : Int) := by omega
  have p2 : (j : Int) < (n : Int) := by omega
  have p3 : (0 : Int) ≤ (i : Int) := Int.natCast_nonneg _
  have p4 : (0 : Int) ≤ (j : Int) := Int.natCast_nonneg _
  go_enter Tryz.func25, Tryz.ntmps25
  go_wp2_with fail
  refine wp_region_L (l := 33) (S := (OrdS w.heap.size w LB b off n c i j x y)) (by kernel_rfl) ?_ (fun hHeld => ?_)
  · ((try dsimp only); (exact HS.out _ (Below.refl _ _).drew))
  refine wpAnyL_take (i := 0) (oi := _) (v := ?v1) rfl (by kernel_rfl) (fun _ _ _ h => h) (by assumption) (Or.inl ⟨by kernel_rfl, ?y1⟩) ?r1
  case y1 => (intro w hSw; (try dsimp only at hSw); go_simp; all_goals with_reducible rfl)
  try simp only [Act.put, List.setIfInBounds_toArray, List.set_cons_zero, List.set_cons_succ]
  refine wpAnyL_take (i := 1) (oi := _) (v := ?v2) rfl (by kernel_rfl) (fun _ _ _ h => h) (by assumption) (Or.inl ⟨by kernel_rfl, ?y2⟩) ?r2
  case y2 => (intro w hSw; (try dsimp only at hSw); go_simp; all_goals with_reducible rfl)
  try simp only [Act.put, List.setIfInBounds_toArray, List.set_cons_zero, List.set_cons_succ]
  refine wpAnyL_take (i := 2) (oi := _) (v := ?v3) rfl (by kernel_rfl) (fun _ _ _ h => h) (by assumption) (Or.inl ⟨by kernel_rfl, ?y3⟩) ?r3
  case y3 => (intro w hSw; (try dsimp only at hSw); go_simp; all_goals with_reducible rfl)
  try simp only [Act.put, List.setIfInBounds_toArray, List.set_cons_zero, List.set_cons_succ]
  refine wpAnyL_take (i := 3) (oi := _) (v := ?v4) rfl (by kernel_rfl) (fun _ _ _ h => h) (by assumption) (Or.inl ⟨by kernel_rfl, ?y4⟩) ?r4
  case y4 => (intro w hSw; (try dsimp only at hSw); go_simp; all_goals with_reducible rfl)
  try simp only [Act.put, List.setIfInBounds_toArray, List.set_cons_zero, List.set_cons_succ]
  refine wpAnyL_take (i := 4) (oi := _) (v := ?v5) rfl (by kernel_rfl) (fun _ _ _ h => h) (by assumption) (Or.inl ⟨by kernel_rfl, ?y5⟩) ?r5
  case y5 => (intro w hSw; (try dsimp only at hSw); go_simp; all_goals with_reducible rfl)
  try simp only [Act.put, List.setIfInBounds_toArray, List.set_cons_zero, List.set_cons_succ]
  refine wpAnyL_take (i := 5) (oi := _) (v := ?v6) rfl (by kernel_rfl) (fun _ _ _ h => h) (by assumption) (Or.inl ⟨by kernel_rfl, ?y6⟩) ?r6
  case y6 => (intro w hSw; (try dsimp only at hSw); go_simp; all_goals with_reducible rfl)
  try simp only [Act.put, List.setIfInBounds_toArray, List.set_cons_zero, List.set_cons_succ]
  refine wpAnyL_take (i := 6) (oi := _) (v := ?v7) rfl (by kernel_rfl) (fun _ _ _ h => h) (by assumption) (Or.inl ⟨by kernel_rfl, ?y7⟩) ?r7
  case y7 => (intro w hSw; (try dsimp only at hSw); go_simp; all_goals with_reducible rfl)
  try simp only [Act.put, List.setIfInBounds_toArray, List.set_cons_zero, List.set_cons_succ]
  refine wpAnyL_take (i := 7) (oi := _) (v := ?v8) rfl (by kernel_rfl) (fun _ _ _ h => h) (by assumption) (Or.inl ⟨by kernel_rfl, ?y8⟩) ?r8
  case y8 => (intro w hSw; (try dsimp only at hSw); go_simp; all_goals with_reducible rfl)
  try simp only [Act.put, List.setIfInBounds_toArray, List.set_cons_zero, List.set_cons_succ]
  refine wpAnyL_take (i := 8) (oi := _) (v := ?v9) rfl (by kernel_rfl) (fun _ _ _ h => h) (by assumption) (Or.inl ⟨by kernel_rfl, ?y9⟩) ?r9
  case y9 => (intro w hSw; (try dsimp only at hSw); go_simp; all_goals with_reducible rfl)
  try simp only [Act.put, List.setIfInBounds_toArray, List.set_cons_zero, List.set_cons_succ]
  refine wpAnyL_take (i := 9) (oi := _) (v := ?v10) rfl (by kernel_rfl) (fun _ _ _ h => h) (by assumption) (Or.inl ⟨by kernel_rfl, ?y10⟩) ?r10
  case y10 => (intro w hSw; (try dsimp only at hSw); go_simp; all_goals with_reducible rfl)
  try simp only [Act.put, List.setIfInBounds_toArray, List.set_cons_zero, List.set_cons_succ]
  refine wpAnyL_take (i := 11) (oi := _) (v := ?v11) rfl (by kernel_rfl) (fun _ _ _ h => h) (by assumption) (Or.inl ⟨by kernel_rfl, ?y11⟩) ?r11
  case y11 => (intro w hSw; (try dsimp only at hSw); go_simp; all_goals with_reducible rfl)
  try simp only [Act.put, List.setIfInBounds_toArray, List.set_cons_zero, List.set_cons_succ]
  refine wpAnyL_take (i := 12) (oi := _) (v := ?v12) rfl (by kernel_rfl) (fun _ _ _ h => h) (by assumption) (Or.inl ⟨by kernel_rfl, ?y12⟩) ?r12
  case y12 => (intro w hSw; (try dsimp only at hSw); go_simp; all_goals with_reducible rfl)
  try simp only [Act.put, List.setIfInBounds_toArray, List.set_cons_zero, List.set_cons_succ]
  refine wpAnyL_take (i := 13) (oi := _) (v := ?v13) rfl (by kernel_rfl) (fun _ _ _ h => h) (by assumption) (Or.inl ⟨by kernel_rfl, ?y13⟩) ?r13
  case y13 => (intro w hSw; (try dsimp only at hSw); go_simp; all_goals with_reducible rfl)
  try simp only [Act.put, List.setIfInBounds_toArray, List.set_cons_zero, List.set_cons_succ]
  refine wpAnyL_take (i := 14) (oi := _) (v := ?v14) rfl (by kernel_rfl) (fun _ _ _ h => h) (by assumption) (Or.inl ⟨by kernel_rfl, ?y14⟩) ?r14
  case y14 => (intro w hSw; (try dsimp only at hSw); go_simp; all_goals with_reducible rfl)
  try simp only [Act.put, List.setIfInBounds_toArray, List.set_cons_zero, List.set_cons_succ]
  refine wpAnyL_take (i := 16) (oi := _) (v := ?v15) rfl (by kernel_rfl) (fun _ _ _ h => h) (by assumption) (Or.inl ⟨by kernel_rfl, ?y15⟩) ?r15
  case y15 => (intro w hSw; (try dsimp only at hSw); go_simp; all_goals with_reducible rfl)
  try simp only [Act.put, List.setIfInBounds_toArray, List.set_cons_zero, List.set_cons_succ]
  refine wpAnyL_take (i := 17) (oi := _) (v := ?v16) rfl (by kernel_rfl) (fun _ _ _ h => h) (by assumption) (Or.inl ⟨by kernel_rfl, ?y16⟩) ?r16
  case y16 => (intro w hSw; (try dsimp only at hSw); go_simp; all_goals with_reducible rfl)
  try simp only [Act.put, List.setIfInBounds_toArray, List.set_cons_zero, List.set_cons_succ]
  refine wpAnyL_take (i := 18) (oi := _) (v := ?v17) rfl (by kernel_rfl) (fun _ _ _ h => h) (by assumption) (Or.inl ⟨by kernel_rfl, ?y17⟩) ?r17
  case y17 => (intro w hSw; (try dsimp only at hSw); go_simp; all_goals with_reducible rfl)
  try simp only [Act.put, List.setIfInBounds_toArray, List.set_cons_zero, List.set_cons_succ]
  refine wpAnyL_take (i := 19) (oi := _) (v := ?v18) rfl (by kernel_rfl) (fun _ _ _ h => h) (by assumption) (Or.inl ⟨by kernel_rfl, ?y18⟩) ?r18
  case y18 => (intro w hSw; (try dsimp only at hSw); go_simp; all_goals with_reducible rfl)
  try simp only [Act.put, List.setIfInBounds_toArray, List.set_cons_zero, List.set_cons_succ]
  refine wpAnyL_take (i := 22) (oi := _) (v := ?v19) rfl (by kernel_rfl) (fun _ _ _ h => h) (by assumption) (Or.inl ⟨by kernel_rfl, ?y19⟩) ?r19
  case y19 => (intro w hSw; (try dsimp only at hSw); go_simp; all_goals with_reducible rfl)
  try simp only [Act.put, List.setIfInBounds_toArray, List.set_cons_zero, List.set_cons_succ]
  refine wpAnyL_take (i := 23) (oi := _) (v := ?v20) rfl (by kernel_rfl) (fun _ _ _ h => h) (by assumption) (Or.inl ⟨by kernel_rfl, ?y20⟩) ?r20
  case y20 => (intro w hSw; (try dsimp only at hSw); go_simp; all_goals with_reducible rfl)
  try simp only [Act.put, List.setIfInBounds_toArray, List.set_cons_zero, List.set_cons_succ]
  refine wpAnyL_take (i := 24) (oi := _) (v := ?v21) rfl (by kernel_rfl) (fun _ _ _ h => h) (by assumption) (Or.inl ⟨by kernel_rfl, ?y21⟩) ?r21
  case y21 => (intro w hSw; (try dsimp only at hSw); go_simp; all_goals with_reducible rfl)
  try simp only [Act.put, List.setIfInBounds_toArray, List.set_cons_zero, List.set_cons_succ]
  refine wpAnyL_take (i := 25) (oi := _) (v := ?v22) rfl (by kernel_rfl) (fun _ _ _ h => h) (by assumption) (Or.inl ⟨by kernel_rfl, ?y22⟩) ?r22
  case y22 => (intro w hSw; (try dsimp only at hSw); go_simp; all_goals with_reducible rfl)
  try simp only [Act.put, List.setIfInBounds_toArray, List.set_cons_zero, List.set_cons_succ]
  refine wpAnyL_take (i := 26) (oi := _) (v := ?v23) rfl (by kernel_rfl) (fun _ _ _ h => h) (by assumption) (Or.inl ⟨by kernel_rfl, ?y23⟩) ?r23
  case y23 => (intro w hSw; (try dsimp only at hSw); go_simp; all_goals with_reducible rfl)
  try simp only [Act.put, List.setIfInBounds_toArray, List.set_cons_zero, List.set_cons_succ]
  refine wpAnyL_take (i := 27) (oi := _) (v := ?v24) rfl (by kernel_rfl) (fun _ _ _ h => h) (by assumption) (Or.inl ⟨by kernel_rfl, ?y24⟩) ?r24
  case y24 => (intro w hSw; (try dsimp only at hSw); go_simp; all_goals with_reducible rfl)
  try simp only [Act.put, List.setIfInBounds_toArray, List.set_cons_zero, List.set_cons_succ]
  refine wpAnyL_take (i := 28) (oi := _) (v := ?v25) rfl (by kernel_rfl) (fun _ _ _ h => h) (by assumption) (Or.inl ⟨by kernel_rfl, ?y25⟩) ?r25
  case y25 => (intro w hSw; (try dsimp only at hSw); go_simp; all_goals with_reducible rfl)
  try simp only [Act.put, List.setIfInBounds_toArray, List.set_cons_zero, List.set_cons_succ]
  refine wpAnyL_take (i := 29) (oi := _) (v := ?v26) rfl (by kernel_rfl) (fun _ _ _ h => h) (by assumption) (Or.inl ⟨by kernel_rfl, ?y26⟩) ?r26
  case y26 => (intro w hSw; (try dsimp only at hSw); go_simp; all_goals with_reducible rfl)
  try simp only [Act.put, List.setIfInBounds_toArray, List.set_cons_zero, List.set_cons_succ]
  refine wpAnyL_take (i := 30) (oi := _) (v := ?v27) rfl (by kernel_rfl) (fun _ _ _ h => h) (by assumption) (Or.inl ⟨by kernel_rfl, ?y27⟩) ?r27
  case y27 => (intro w hSw; (try dsimp only at hSw); go_simp; all_goals with_reducible rfl)
  try simp only [Act.put, List.setIfInBounds_toArray, List.set_cons_zero, List.set_cons_succ]
  refine wpAnyL_take (i := 31) (oi := _) (v := ?v28) rfl (by kernel_rfl) (fun _ _ _ h => h) (by assumption) (Or.inl ⟨by kernel_rfl, ?y28⟩) ?r28
  case y28 => (intro w hSw; (try dsimp only at hSw); go_simp; all_goals with_reducible rfl)
  try simp only [Act.put, List.setIfInBounds_toArray, List.set_cons_zero, List.set_cons_succ]
  refine wpAnyL_step (j := 10) (o := _) (by kernel_rfl) rfl (fun K hK => ?_)
  (go_simp; go_at_call 27; refine (compare64_any _ _ _).mono ?_; rintro e w1 ⟨rfl, rfl⟩)
  refine hK _ _ ?_ (fun hHeld => ?_)
  · ((try dsimp only); (exact hHeld))
  clear hK K
  try simp only [Act.put, List.setIfInBounds_toArray, List.set_cons_zero, List.set_cons_succ]
  refine wpAnyL_step (j := 15) (o := _) (by kernel_rfl) rfl (fun K hK => ?_)
  (go_simp; go_at_call 29; refine (writer_any x _).mono ?_; rintro e w1 ⟨rfl, hb1⟩)
  refine hK _ _ ?_ (fun hHeld => ?_)
  · ((try dsimp only); (exact HS.out _ (hHeld.1.trans (hb1.mono hHeld.1.size))))
  clear hK K
  try simp only [Act.put, List.setIfInBounds_toArray, List.set_cons_zero, List.set_cons_succ]
  refine wpAnyL_step (j := 20) (o := _) (by kernel_rfl) rfl (fun K hK => ?_)
  (go_simp; go_at_call 29; refine (writer_any y _).mono ?_; rintro e w2 ⟨rfl, hb2⟩)
  refine hK _ _ ?_ (fun hHeld => ?_)
  · ((try dsimp only); (exact HS.out _ (hHeld.1.trans (hb2.mono hHeld.1.size))))
  clear hK K
  try simp only [Act.put, List.setIfInBounds_toArray, List.set_cons_zero, List.set_cons_succ]
  refine wpAnyL_step (j := 21) (o := _) (by kernel_rfl) rfl (fun K hK => ?_)
  (go_simp; go_at_call 28; refine (compare_any _ _ _).mono ?_; rintro e w3 ⟨rfl, rfl⟩)
  refine hK _ _ ?_ (fun hHeld => ?_)
  · ((try dsimp only); (exact hHeld))
  clear hK K
  try simp only [Act.put, List.setIfInBounds_toArray, List.set_cons_zero, List.set_cons_succ]
  refine wpAnyL_step (j := 32) (o := _) (by kernel_rfl) rfl (fun K hK => ?_)
  (go_simp; go_at_call 28; refine (compare_any _ _ _).mono ?_; rintro e w4 ⟨rfl, rfl⟩)
  refine hK _ _ ?_ (fun hHeld => ?_)
  · ((try dsimp only); (exact hHeld))
  clear hK K
  try simp only [Act.put, List.setIfInBounds_toArray, List.set_cons_zero, List.set_cons_succ]
  refine wpAnyL_behind (j := 33) (o := _) (by kernel_rfl) rfl (by rfl) (fun K hK => ?_)
  go_simp
  refine hK _ _ ?_; clear hK K
  try simp only [Act.put, List.setIfInBounds_toArray, List.set_cons_zero, List.set_cons_succ]
  refine wpAnyL_behind (j := 34) (o := _) (by kernel_rfl) rfl (by rfl) (fun K hK => ?_)
  (go_simp; go_at_call 26; refine (or_any _ _ (cmpV x.pl y.pl) (cmpV (wv x) (wv y)) (cmpV x.en y.en) _ (by simp) (by simp) (by simp)).mono ?_; rintro e w5 ⟨rfl, rfl⟩)
  refine hK _ _ ?_; clear hK K
  try simp only [Act.put, List.setIfInBounds_toArray, List.set_cons_zero, List.set_cons_succ]
  refine wpAnyL_last (j := 35) (o := _) (by kernel_rfl) rfl (by rfl) (by kernel_rfl) (fun K hK => ?_)
  go_simp
  (refine hK _ _ ?_; clear hK K)
  try simp only [Act.put, List.setIfInBounds_toArray, List.set_cons_zero, List.set_cons_succ]
  go_wp2_with fail
  go_ret
  exact ⟨rfl, hHeld.1.alloc hHeld.1.size _⟩
end Go.Proofs.YtjaegddnikkibaaGreatDoor
