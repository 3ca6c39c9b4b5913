/-
  The document's reader: one label more.
-/
import Derived.Test.YtkkcngppmhebbaaGreatDoorRf18D
set_option linter.unusedVariables false
set_option linter.unusedSimpArgs false
namespace Go.Proofs.YtkkcngppmhebbaaGreatDoor
open Go.RowKit

theorem intInfo : (Tryz.prog.info? 3).map (fun i => (i.zero, i.size, i.bytes)) = some (some (.int .i64 0), 1, 8) := by kernel_rfl
abbrev RcS (RB : Nat) (vo vl vp vg : Value) (W : World) : Prop := W.cell? ⟨RB, 0, none⟩ = some vo ∧ W.cell? ⟨RB, 1, none⟩ = some vl ∧ W.cell? ⟨RB, 2, none⟩ = some vp ∧ W.cell? ⟨RB, 3, none⟩ = some vg
theorem RfS.rc {RB : Nat} {ops : List Cmd} {labs : List (List UInt8)} {plcs : List Nat} {gls : List (Nat × Nat × List UInt8)} {vo vl vp vg : Value} {W : World} (h : RfS RB ops labs plcs gls vo vl vp vg W) : RcS RB vo vl vp vg W :=
  ⟨cell_of h.blk 0, cell_of h.blk 1, cell_of h.blk 2, cell_of h.blk 3⟩

set_option maxHeartbeats 4000000 in
set_option maxRecDepth 100000 in
theorem rlab_any (RB : Nat) (ops : List Cmd) (labs : List (List UInt8)) (plcs : List Nat) (gls : List (Nat × Nat × List UInt8)) (vo vl vp vg : Value) (x : List UInt8) (w : World) (h : RfS RB ops labs plcs gls vo vl vp vg w)
    (hn : labs.length = plcs.length) (hl : labs.length ≤ 100000) (hp : ∀ p ∈ plcs, p ≤ 1000000) (ho : ops.length ≤ 100000) (hx : x.length ≤ 65536) :
    Calls Tryz.prog 19 #[.pointer (some ⟨RB, 0, none⟩), .string ⟨x.toArray⟩] w fun e w' =>
      (if labelB x = true then (match lookV x (labs.zip plcs) with
        | some _ => e = .returned (.int .i64 8)
        | none => e = .returned (.int .i64 0) ∧ ∃ vl' vp', RfS RB ops (labs ++ [x]) (plcs ++ [ops.length]) gls vo vl' vp' vg w') else e = .returned (.int .i64 13)) ∧ Below RB w w' := by
  have CL := Lib.hid (rlabel_any x (by omega) w)
  have CP := Lib.hid (rplace_any RB ops labs plcs gls vo vl vp vg x w h hn hl hp)
  have HPp := Lib.hid hp
  clear hp
  cases hlb : labelB x with
  | false =>
    rw [hlb] at CL
    simp only [Bool.false_eq_true, ↓reduceIte]
    go_enter Tryz.func19, Tryz.ntmps19
    go_wp2_with (go_at_call 111; refine CL.out.mono ?_; rintro e w1 ⟨rfl, rfl⟩)
    go_ret
    exact ⟨rfl, Below.refl _ _⟩
  | true =>
    rw [hlb] at CL
    simp only [↓reduceIte]
    cases hlk : lookV x (labs.zip plcs) with
    | some p =>
      rw [hlk] at CP
      dsimp only at CP ⊢
      have p1 : (0 : Int) ≤ (p : Int) := Int.natCast_nonneg _
      clear hlk hlb
      go_enter Tryz.func19, Tryz.ntmps19
      go_wp2_with (first | (go_at_call 111; refine CL.out.mono ?_; rintro e w1 ⟨rfl, rfl⟩) | (go_at_call 21; refine CP.out.mono ?_; rintro e w1 ⟨rfl, rfl⟩))
      go_ret
      exact ⟨rfl, Below.refl _ _⟩
    | none =>
      rw [hlk] at CP
      dsimp only at CP ⊢
      obtain ⟨r0, r1, r2, r3⟩ := h.rc
      have HH := Lib.hid h
      have HNum : Hid (labs.length = plcs.length ∧ labs.length ≤ 100000 ∧ ops.length ≤ 100000 ∧ RB < w.heap.size) := Lib.hid ⟨hn, hl, ho, h.lt⟩
      clear hlk hlb h hn hl ho
      go_enter Tryz.func19, Tryz.ntmps19
      go_wp2_with (first | (go_at_call 111; refine CL.out.mono ?_; rintro e w1 ⟨rfl, rfl⟩) | (go_at_call 21; refine CP.out.mono ?_; rintro e w1 ⟨rfl, rfl⟩) | (at_builtin; refine wpList_append_s rfl _ _ rfl _ labs rfl (own_alloc HH.out.lab _) ⟨_, 0, none⟩ 1 rfl x (news_s _ _) ?c2 ?c3 ?_))
      case c2 => have := HNum.out; simp only [List.length_append, List.length_cons, List.length_nil]; omega
      case c3 => have := HNum.out; simp; omega
      intro v2 w2 hr hg
      have hA := Lib.hid (HH.out.appLab (w5 := w2) (v' := v2) x ((Below.refl w.heap.size w).alloc (Nat.le_refl _) _) hg (by first | (simpa using hr) | exact hr))
      obtain ⟨Al, cl, rfl⟩ : ∃ A c, v2 = .slice A (labs.length + 1) c := by
        obtain ⟨A, c, hv⟩ := own_slice hA.out.2.2.1.lab
        exact ⟨A, c, by simpa using hv⟩
      obtain ⟨⟨c1, f1⟩, -⟩ := hA.out
      have HR2 := Lib.hid hA.out.2.2.1
      have HB2 := Lib.hid hA.out.2.2.2
      clear hr hg CL CP r0 r1 r2 r3
      go_wp2_with fail
      clear c1 f1 hA
      obtain ⟨w3, hw3⟩ : ∃ w3, w2.setCell ⟨RB, 1, none⟩ (.slice Al (labs.length + 1) cl) = w3 := ⟨_, rfl⟩
      rw [hw3] at HR2 HB2 ⊢
      clear hw3
      obtain ⟨i0, hi0, hz0, hz1, hz2⟩ := info_parts intInfo
      obtain ⟨Ao, co, rfl⟩ := own_slice HR2.out.ops
      have HSg : Hid (∀ W, Below w3.heap.size w3 W → RcS RB (.slice Ao ops.length co) (.slice Al (labs.length + 1) cl) vp vg W) := Lib.hid fun W hb => (HR2.out.below hb).rc
      have HRo := Lib.hid (fun W (hb : Below w3.heap.size w3 W) => (HR2.out.below hb).plc)
      have HA := Lib.hid (fun (w4 w5 : World) (v' : Value) hb hg ho => HR2.out.appPlc (w4 := w4) (w5 := w5) (v' := v') ops.length hb hg ho)
      have HRl : Hid (RB ≤ w3.heap.size) := Lib.hid (Nat.le_of_lt HR2.out.lt)
      refine wp_region_L (l := 14) (S := (RcS RB (.slice Ao ops.length co) (.slice Al (labs.length + 1) cl) vp vg)) (by kernel_rfl) ?_ (fun hHeld => ?_)
      · ((try dsimp only); (exact HSg.out _ (Below.refl _ _).drew))
      refine wpAnyL_take (i := 0) (oi := _) (v := ?v1) rfl (by kernel_rfl) (fun _ _ _ h => h) (by assumption) (Or.inl ⟨by kernel_rfl, ?y1⟩) ?r1
      case y1 => (intro w hSw; (try dsimp only at hSw); go_simp; all_goals with_reducible rfl)
      try simp only [List.getElem_toArray, List.getElem_cons_zero, List.getElem_cons_succ, Act.put, List.setIfInBounds_toArray, List.set_cons_zero, List.set_cons_succ]
      refine wpAnyL_take (i := 1) (oi := _) (v := ?v2) rfl (by kernel_rfl) (fun _ _ _ h => h) (by assumption) (Or.inl ⟨by kernel_rfl, ?y2⟩) ?r2
      case y2 => (intro w hSw; (try dsimp only at hSw); go_simp; all_goals with_reducible rfl)
      try simp only [List.getElem_toArray, List.getElem_cons_zero, List.getElem_cons_succ, Act.put, List.setIfInBounds_toArray, List.set_cons_zero, List.set_cons_succ]
      refine wpAnyL_take (i := 2) (oi := _) (v := ?v3) rfl (by kernel_rfl) (fun _ _ _ h => h) (by assumption) (Or.inl ⟨by kernel_rfl, ?y3⟩) ?r3
      case y3 => (intro w hSw; (try dsimp only at hSw); go_simp; all_goals with_reducible rfl)
      try simp only [List.getElem_toArray, List.getElem_cons_zero, List.getElem_cons_succ, Act.put, List.setIfInBounds_toArray, List.set_cons_zero, List.set_cons_succ]
      refine wpAnyL_take (i := 3) (oi := _) (v := ?v4) rfl (by kernel_rfl) (fun _ _ _ h => h) (by assumption) (Or.inl ⟨by kernel_rfl, ?y4⟩) ?r4
      case y4 => (intro w hSw; (try dsimp only at hSw); go_simp; all_goals with_reducible rfl)
      try simp only [List.getElem_toArray, List.getElem_cons_zero, List.getElem_cons_succ, Act.put, List.setIfInBounds_toArray, List.set_cons_zero, List.set_cons_succ]
      refine wpAnyL_take (i := 4) (oi := _) (v := ?v5) rfl (by kernel_rfl) (fun _ _ _ h => h) (by assumption) (Or.inl ⟨by kernel_rfl, ?y5⟩) ?r5
      case y5 => (intro w hSw; (try dsimp only at hSw); go_simp; all_goals with_reducible rfl)
      try simp only [List.getElem_toArray, List.getElem_cons_zero, List.getElem_cons_succ, Act.put, List.setIfInBounds_toArray, List.set_cons_zero, List.set_cons_succ]
      refine wpAnyL_take (i := 5) (oi := _) (v := ?v6) rfl (by kernel_rfl) (fun _ _ _ h => h) (by assumption) (Or.inl ⟨by kernel_rfl, ?y6⟩) ?r6
      case y6 => (intro w hSw; (try dsimp only at hSw); go_simp; all_goals with_reducible rfl)
      try simp only [List.getElem_toArray, List.getElem_cons_zero, List.getElem_cons_succ, Act.put, List.setIfInBounds_toArray, List.set_cons_zero, List.set_cons_succ]
      refine wpAnyL_take (i := 6) (oi := _) (v := ?v7) rfl (by kernel_rfl) (fun _ _ _ h => h) (by assumption) (Or.inl ⟨by kernel_rfl, ?y7⟩) ?r7
      case y7 => (intro w hSw; (try dsimp only at hSw); go_simp; all_goals with_reducible rfl)
      try simp only [List.getElem_toArray, List.getElem_cons_zero, List.getElem_cons_succ, Act.put, List.setIfInBounds_toArray, List.set_cons_zero, List.set_cons_succ]
      refine wpAnyL_take (i := 7) (oi := _) (v := ?v8) rfl (by kernel_rfl) (fun _ _ _ h => h) (by assumption) (Or.inl ⟨by kernel_rfl, ?y8⟩) ?r8
      case y8 => (intro w hSw; (try dsimp only at hSw); go_simp; all_goals with_reducible rfl)
      try simp only [List.getElem_toArray, List.getElem_cons_zero, List.getElem_cons_succ, Act.put, List.setIfInBounds_toArray, List.set_cons_zero, List.set_cons_succ]
      refine wpAnyL_take (i := 8) (oi := _) (v := ?v9) rfl (by kernel_rfl) (fun _ _ _ h => h) (by assumption) (Or.inl ⟨by kernel_rfl, ?y9⟩) ?r9
      case y9 => (intro w hSw; (try dsimp only at hSw); go_simp; all_goals with_reducible rfl)
      try simp only [List.getElem_toArray, List.getElem_cons_zero, List.getElem_cons_succ, Act.put, List.setIfInBounds_toArray, List.set_cons_zero, List.set_cons_succ]
      refine wpAnyL_take (i := 9) (oi := _) (v := ?v10) rfl (by kernel_rfl) (fun _ _ _ h => h) (by assumption) (Or.inl ⟨by kernel_rfl, ?y10⟩) ?r10
      case y10 => (intro w hSw; (try dsimp only at hSw); go_simp; all_goals with_reducible rfl)
      try simp only [List.getElem_toArray, List.getElem_cons_zero, List.getElem_cons_succ, Act.put, List.setIfInBounds_toArray, List.set_cons_zero, List.set_cons_succ]
      refine wpAnyL_step (j := 10) (o := _) (by kernel_rfl) rfl (fun K hK => ?_)
      (go_simp; have hB4 := Lib.hid (fun o => ((Below.refl w3.heap.size w3).drew).alloc (Nat.le_refl _) o))
      refine hK _ _ ?_ (fun hHeld => ?_)
      · ((try dsimp only); (exact HSg.out _ (hB4.out _)))
      clear hK K
      try simp only [List.getElem_toArray, List.getElem_cons_zero, List.getElem_cons_succ, Act.put, List.setIfInBounds_toArray, List.set_cons_zero, List.set_cons_succ]
      refine wpAnyL_step (j := 11) (o := _) (by kernel_rfl) rfl (fun K hK => ?_)
      (refine wp_append_own_at _ _ 83 rfl RB 3 i0 _ 1 8 Tryz.underlying83 hi0 hz0 hz1 hz2 rfl (by decide) vp plcs.length _ rfl (HRo.out _ (hB4.out _)) ⟨w3.heap.size, 0, none⟩ 1 1 [.int .i64 (ops.length : Int)] rfl rfl (World.news_of_block (heap_alloc_new w3.drew _)) (by simp [Value.oneCell']) (by have := HNum.out; unfold maxLen; omega) (by have := HNum.out; omega) (Nat.le_trans HRl.out (hB4.out _).size) ?_; intro v' w5 hown' hgrow hat; obtain ⟨gg, cp, rfl⟩ : ∃ gg cp, v' = .slice (some ⟨gg, 0, none⟩) (plcs.length + 1) cp := (hown'.2.elim (fun h => absurd h.2 (by omega)) (fun ⟨gg, cp, cur, h, _⟩ => ⟨gg, cp, h⟩)); have hG := Lib.hid (HA.out _ _ _ (hB4.out _) hgrow hown'); obtain ⟨⟨c0, f0⟩, -⟩ := hG.out; clear hown' hgrow hat)
      refine hK _ _ ?_ (fun hHeld => ?_)
      · ((try dsimp only); (exact hG.out.2.1))
      clear hK K
      try simp only [List.getElem_toArray, List.getElem_cons_zero, List.getElem_cons_succ, Act.put, List.setIfInBounds_toArray, List.set_cons_zero, List.set_cons_succ]
      refine wpAnyL_take (i := 12) (oi := _) (v := ?v13) rfl (by kernel_rfl) (fun _ _ _ h => h) (by assumption) (Or.inl ⟨by kernel_rfl, ?y13⟩) ?r13
      case y13 => (intro w hSw; (try dsimp only at hSw); go_simp; all_goals with_reducible rfl)
      try simp only [List.getElem_toArray, List.getElem_cons_zero, List.getElem_cons_succ, Act.put, List.setIfInBounds_toArray, List.set_cons_zero, List.set_cons_succ]
      refine wpAnyL_take (i := 13) (oi := _) (v := ?v14) rfl (by kernel_rfl) (fun _ _ _ h => h) (by assumption) (Or.inl ⟨by kernel_rfl, ?y14⟩) ?r14
      case y14 => (intro w hSw; (try dsimp only at hSw); go_simp; all_goals with_reducible rfl)
      try simp only [List.getElem_toArray, List.getElem_cons_zero, List.getElem_cons_succ, Act.put, List.setIfInBounds_toArray, List.set_cons_zero, List.set_cons_succ]
      refine wpAnyL_last (j := 14) (o := _) (by kernel_rfl) rfl (by rfl) (by kernel_rfl) (fun K hK => ?_)
      go_simp
      (refine hK _ _ ?_; clear hK K)
      try simp only [List.getElem_toArray, List.getElem_cons_zero, List.getElem_cons_succ, Act.put, List.setIfInBounds_toArray, List.set_cons_zero, List.set_cons_succ]
      have hR5 := Lib.hid hG.out.2.2.1
      have hB5 := Lib.hid hG.out.2.2.2
      clear hG HSg HRo HA hB4 c0 f0 hHeld
      go_wp2_with fail
      go_ret
      exact ⟨⟨rfl, _, _, hR5.out⟩, HB2.out.trans hB5.out⟩
end Go.Proofs.YtkkcngppmhebbaaGreatDoor
