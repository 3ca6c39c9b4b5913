/-
  The walks of layer 1's laws.
-/
import Derived.Test.YtdjpnaglkonjbaaDoorWordText
namespace Go.Proofs.YtdjpnaglkonjbaaDoor
open Go.RowKit

set_option maxHeartbeats 400000 in
theorem wordDoes_walk (c a b : Int) (_ : (Lit.int .u8 c).wf = true) (_ : (Lit.int .i64 a).wf = true) (_ : (Lit.int .i64 b).wf = true) (w : World) (G : Globs w) :
    Calls Tryd.prog 3 #[.int .u8 c, .int .i64 a, .int .i64 b] w fun e w' => e = .returned (.bool true) ∧ Below w.heap.size w w' := by
  go_enter Tryd.func3, Tryd.ntmps3
  go_wp2_with (first | (go_at_call 12; refine (do_any _ _ _ _).mono ?_; rintro e w' ⟨rfl, rfl⟩) | (go_at_call 13; refine (rdo_any _ _ _ _).mono ?_; rintro e w' ⟨rfl, rfl⟩) | (go_at_call 14; refine (alive_any _ G).mono ?_; rintro e w' ⟨rfl, hb⟩))
  go_ret
  exact ⟨rfl, ‹_›⟩


/-! ### do: an operation that is not refused; the truth behind the pointer stays -/
theorem setCell_same (w : World) (a : Addr) (v : Value) (h : w.cell? a = some v) : w.setCell a v = w := by
  unfold World.cell? at h
  have e : (w.setCell a v).heap = w.heap := by
    apply Array.ext_getElem?
    intro i
    simp only [World.setCell, Array.getElem?_modify]
    split
    · rename_i hi
      subst hi
      cases hb : w.heap[a.block]? with
      | none => rfl
      | some o =>
        rw [hb] at h
        cases o with
        | cells c t f =>
          simp only at h
          split at h
          · cases h
          · rename_i hs
            simp only [Option.map_some, hs]
            congr 2
            apply Array.ext_getElem?
            intro j
            simp only [Bool.false_eq_true, if_false, Array.getElem?_setIfInBounds]
            split
            · rename_i hj; subst hj
              split
              · exact h.symm
              · rename_i hlt; rw [Array.getElem?_eq_none (by omega)] at h; cases h
            · rfl
        | _ => cases h
    · rfl
  cases w
  simp only [World.setCell] at e ⊢
  simp [e]

set_option maxHeartbeats 400000 in
theorem dof_any (c a b : Int) (hd : (doV c a b).2 = 0) (pa : Addr) (w : World) (hx : w.cell? pa = some (.bool true)) (hf : w.frozen? pa = false) :
    Calls Tryd.prog 19 #[.int .u8 c, .int .i64 a, .int .i64 b, .pointer (some pa)] w fun e w' => e = .returned (.int .i64 (doV c a b).1) ∧ w = w' := by
  go_enter Tryd.func19, Tryd.ntmps19
  go_wp2_with fail
  refine (do_any _ _ _ _).mono ?_
  rintro e w1 ⟨rfl, rfl⟩
  go_wp2_with fail
  go_ret
  exact ⟨rfl, (setCell_same _ _ _ hx).symm⟩

theorem wrap64_wf {a : Int} (h : (Lit.int .i64 a).wf = true) : wrap64 a = a := by
  have e1 : IntKind.i64.min = -9223372036854775808 := rfl
  have e2 : IntKind.i64.max = 9223372036854775807 := rfl
  simp [Lit.wf, e1, e2] at h
  unfold wrap64; omega
theorem wrap64_mod (a : Int) : wrap64 a % 18446744073709551616 = a % 18446744073709551616 := by unfold wrap64; omega
theorem ring_add (a b c : Int) : ((doV 1 (doV 1 a b).1 c).1 == (doV 1 b (doV 1 c a).1).1) = true := by
  show (wrap64 (wrap64 (a + b) + c) == wrap64 (b + wrap64 (c + a))) = true
  rw [beq_iff_eq]; unfold wrap64; omega
theorem ring_sub (a b : Int) (h : (Lit.int .i64 a).wf = true) : ((doV 2 (doV 1 a b).1 b).1 == a) = true := by
  show (wrap64 (wrap64 (a + b) - b) == a) = true
  have := wrap64_wf h
  rw [beq_iff_eq]; unfold wrap64 at *; omega
theorem ring_mul (a b c : Int) : ((doV 3 (doV 3 a b).1 c).1 == (doV 3 b (doV 3 c a).1).1) = true := by
  show (wrap64 (wrap64 (a * b) * c) == wrap64 (b * wrap64 (c * a))) = true
  rw [beq_iff_eq]
  refine wrap64_emod ?_
  rw [Int.mul_emod, wrap64_mod, ← Int.mul_emod, Int.mul_emod b, wrap64_mod, ← Int.mul_emod]
  congr 1
  rw [Int.mul_comm a b, Int.mul_assoc, Int.mul_comm a c]
theorem ring_dis (a b c : Int) : ((doV 3 a (doV 1 b c).1).1 == (doV 1 (doV 3 a b).1 (doV 3 a c).1).1) = true := by
  show (wrap64 (a * wrap64 (b + c)) == wrap64 (wrap64 (a * b) + wrap64 (a * c))) = true
  rw [beq_iff_eq]
  refine wrap64_emod ?_
  rw [Int.mul_emod, wrap64_mod, ← Int.mul_emod, Int.add_emod, wrap64_mod, wrap64_mod, ← Int.add_emod, Int.mul_add]

set_option maxHeartbeats 1000000 in
theorem wordRing_walk (a b c : Int) (wa : (Lit.int .i64 a).wf = true) (_ : (Lit.int .i64 b).wf = true) (_ : (Lit.int .i64 c).wf = true) (w : World) (G : Globs w) :
    Calls Tryd.prog 5 #[.int .i64 a, .int .i64 b, .int .i64 c] w fun e w' => e = .returned (.bool true) ∧ Below w.heap.size w w' := by
  have h1 := ring_add a b c
  have h2 := ring_sub a b wa
  have h3 := ring_mul a b c
  have h4 := ring_dis a b c
  clear wa
  have hG : ∀ w', Below w.heap.size w w' → Globs w' := fun w' h => G.below h
  clear G
  go_enter Tryd.func5, Tryd.ntmps5
  go_wp2_with (first | (go_at_call 19; refine (dof_any _ _ _ (by simp [doV]) _ _ (by simp) (by simp)).mono ?_; rintro e w' ⟨rfl, rfl⟩) | (go_at_call 14; refine (alive_any _ (hG _ ((Below.refl _ _).alloc (Nat.le_refl _) _))).mono ?_; rintro e w' ⟨rfl, hb⟩))
  go_ret
  exact ⟨rfl, ((Below.refl _ _).alloc (Nat.le_refl _) _).trans (hb.mono (by simp))⟩

/-! ### a quotient and what is left -/
def sizeI (n : Int) : Int := if n < 0 then -n else n

theorem wf_bounds {a : Int} (h : (Lit.int .i64 a).wf = true) : -9223372036854775808 ≤ a ∧ a ≤ 9223372036854775807 := by
  have e1 : IntKind.i64.min = -9223372036854775808 := rfl
  have e2 : IntKind.i64.max = 9223372036854775807 := rfl
  simpa [Lit.wf, e1, e2] using h

set_option maxHeartbeats 400000 in
theorem size_any (n : Int) (h : -9223372036854775808 ≤ n ∧ n ≤ 9223372036854775807) (w : World) :
    Calls Tryd.prog 20 #[.int .i64 n] w fun e w' => e = .returned (.int .u64 (sizeI n)) ∧ w = w' := by
  obtain ⟨h1, h2⟩ := h
  by_cases hn : n < 0
  · have e1 : IntKind.u64.wrap (-IntKind.u64.wrap n) = sizeI n := by
      unfold sizeI; rw [if_pos hn, IntKind.wrap_u64, IntKind.wrap_u64]; omega
    go_enter Tryd.func20, Tryd.ntmps20
    go_wp2
    go_ret
    exact ⟨rfl, rfl⟩
  · have e1 : sizeI n = n := by
      unfold sizeI; rw [if_neg hn]
    rw [e1]; clear e1
    go_enter Tryd.func20, Tryd.ntmps20
    go_wp2
    go_ret
    exact ⟨rfl, rfl⟩

theorem div_facts (a b : Int) (ha : -9223372036854775808 ≤ a ∧ a ≤ 9223372036854775807) (hb : b ≠ 0) :
    ((doV 1 (doV 3 b (wrap64 (a.tdiv b))).1 (a.tmod b)).1 == a) = true ∧ decide (sizeI (a.tmod b) < sizeI b) = true ∧ (a.tmod b = 0 ∨ (decide (a.tmod b < 0) == decide (a < 0)) = true) := by
  have hd := Int.mul_tdiv_add_tmod a b
  refine ⟨?_, ?_, ?_⟩
  · show (wrap64 (wrap64 (b * wrap64 (a.tdiv b)) + a.tmod b) == a) = true
    rw [beq_iff_eq]
    have e : wrap64 (wrap64 (b * wrap64 (a.tdiv b)) + a.tmod b) = wrap64 a := by
      refine wrap64_emod ?_
      rw [Int.add_emod, wrap64_mod, Int.mul_emod, wrap64_mod, ← Int.mul_emod, ← Int.add_emod, hd]
    rw [e]; unfold wrap64; omega
  · have h1 : (a.tmod b).natAbs < b.natAbs := by rw [Int.natAbs_tmod]; exact Nat.mod_lt _ (by omega)
    have h2 : ∀ n : Int, sizeI n = n.natAbs := fun n => by unfold sizeI; split <;> omega
    rw [h2, h2, decide_eq_true_eq]; omega
  · by_cases h0 : a.tmod b = 0
    · exact .inl h0
    · refine .inr ?_
      by_cases hn : a < 0
      · have : a.tmod b ≤ 0 := by
          have := Int.tmod_nonneg b (a := -a) (by omega)
          rw [Int.neg_tmod] at this; omega
        have h3 : a.tmod b < 0 := by omega
        simp [h3, hn]
      · have := Int.tmod_nonneg b (a := a) (by omega)
        have h3 : ¬ a.tmod b < 0 := by omega
        simp only [h3, hn]; rfl

theorem mod_bounds (a b : Int) (hb : b ≠ 0) (hbb : -9223372036854775808 ≤ b ∧ b ≤ 9223372036854775807) : -9223372036854775808 ≤ a.tmod b ∧ a.tmod b ≤ 9223372036854775807 := by
  have h1 : (a.tmod b).natAbs < b.natAbs := by rw [Int.natAbs_tmod]; exact Nat.mod_lt _ (by omega)
  omega

set_option maxHeartbeats 1000000 in
theorem wordDivides_walk (a b : Int) (wa : (Lit.int .i64 a).wf = true) (wb : (Lit.int .i64 b).wf = true) (w : World) (G : Globs w) :
    Calls Tryd.prog 6 #[.int .i64 a, .int .i64 b] w fun e w' => e = .returned (.bool true) ∧ Below w.heap.size w w' := by
  have ha := wf_bounds wa
  have hbb := wf_bounds wb
  clear wa wb
  have hG : ∀ w', Below w.heap.size w w' → Globs w' := fun w' h => G.below h
  clear G
  by_cases hb : b = 0
  · subst hb
    have c4 : ∀ W, Calls Tryd.prog 12 #[.int .u8 4, .int .i64 a, .int .i64 0] W fun e w' => e = .returned (.tuple #[.int .i64 0, .int .i64 4]) ∧ W = w' := fun W => do_any 4 a 0 W
    have c5 : ∀ W, Calls Tryd.prog 12 #[.int .u8 5, .int .i64 a, .int .i64 0] W fun e w' => e = .returned (.tuple #[.int .i64 0, .int .i64 4]) ∧ W = w' := fun W => do_any 5 a 0 W
    have C4 := Lib.hid c4; have C5 := Lib.hid c5; clear c4 c5
    go_enter Tryd.func6, Tryd.ntmps6
    go_wp2_with fail
    refine (C4.out _).mono ?_; rintro e w' ⟨rfl, rfl⟩
    go_wp2_with fail
    refine (C5.out _).mono ?_; rintro e w' ⟨rfl, rfl⟩
    go_wp2_with (go_at_call 14; refine (alive_any _ (hG _ (Below.refl _ _))).mono ?_; rintro e w' ⟨rfl, hb⟩)
    go_ret
    exact ⟨rfl, ‹_›⟩
  · obtain ⟨f1, f2, f3⟩ := div_facts a b ha hb
    have hm := mod_bounds a b hb hbb
    have hb0 : (b == 0) = false := by simpa using hb
    have c4 : ∀ W, Calls Tryd.prog 12 #[.int .u8 4, .int .i64 a, .int .i64 b] W fun e w' => e = .returned (.tuple #[.int .i64 (wrap64 (a.tdiv b)), .int .i64 0]) ∧ W = w' := fun W => by
      have := do_any 4 a b W; simpa [doV, hb0] using this
    have c5 : ∀ W, Calls Tryd.prog 12 #[.int .u8 5, .int .i64 a, .int .i64 b] W fun e w' => e = .returned (.tuple #[.int .i64 (a.tmod b), .int .i64 0]) ∧ W = w' := fun W => by
      have := do_any 5 a b W; simpa [doV, hb0] using this
    have C4 := Lib.hid c4; have C5 := Lib.hid c5; clear c4 c5
    generalize wrap64 (a.tdiv b) = q at *
    generalize a.tmod b = m at *
    have c1 := fun W => size_any m hm W
    have c2 := fun W => size_any b hbb W
    have C1 := Lib.hid c1; have C2 := Lib.hid c2; clear c1 c2 ha hm hbb
    generalize sizeI m = sm at *
    generalize sizeI b = sb at *
    have f2' : sm < sb := by simpa using f2
    clear f2
    by_cases hm0 : m = 0
    · subst hm0
      clear f3
      go_enter Tryd.func6, Tryd.ntmps6
      go_wp2_with fail
      refine (C4.out _).mono ?_; rintro e w' ⟨rfl, rfl⟩
      go_wp2_with fail
      refine (C5.out _).mono ?_; rintro e w' ⟨rfl, rfl⟩
      go_wp2_with (go_at_call 19; refine (dof_any _ _ _ (by simp [doV]) _ _ (by simp) (by simp)).mono ?_; rintro e w' ⟨rfl, rfl⟩)
      refine (C1.out _).mono ?_; rintro e w' ⟨rfl, rfl⟩
      go_wp2_with fail
      refine (C2.out _).mono ?_; rintro e w' ⟨rfl, rfl⟩
      go_wp2_with (go_at_call 14; refine (alive_any _ (hG _ ((Below.refl _ _).alloc (Nat.le_refl _) _))).mono ?_; rintro e w' ⟨rfl, hb⟩)
      go_ret
      exact ⟨rfl, ((Below.refl _ _).alloc (Nat.le_refl _) _).trans (‹Below (w.alloc _).heap.size _ _›.mono (by simp))⟩
    · have hm1 : (m == 0) = false := by simpa using hm0
      have f4 : (decide (m < 0) == decide (a < 0)) = true := f3.resolve_left hm0
      clear f3 hm0
      go_enter Tryd.func6, Tryd.ntmps6
      go_wp2_with fail
      refine (C4.out _).mono ?_; rintro e w' ⟨rfl, rfl⟩
      go_wp2_with fail
      refine (C5.out _).mono ?_; rintro e w' ⟨rfl, rfl⟩
      go_wp2_with (go_at_call 19; refine (dof_any _ _ _ (by simp [doV]) _ _ (by simp) (by simp)).mono ?_; rintro e w' ⟨rfl, rfl⟩)
      refine (C1.out _).mono ?_; rintro e w' ⟨rfl, rfl⟩
      go_wp2_with fail
      refine (C2.out _).mono ?_; rintro e w' ⟨rfl, rfl⟩
      go_wp2_with (go_at_call 14; refine (alive_any _ (hG _ ((Below.refl _ _).alloc (Nat.le_refl _) _))).mono ?_; rintro e w' ⟨rfl, hb⟩)
      go_ret
      exact ⟨rfl, ((Below.refl _ _).alloc (Nat.le_refl _) _).trans (‹Below (w.alloc _).heap.size _ _›.mono (by simp))⟩

set_option maxHeartbeats 400000 in
theorem dof_lit (c a b n : Int) (hd : doV c a b = (n, 0)) (pa : Addr) (w : World) (hx : w.cell? pa = some (.bool true)) (hf : w.frozen? pa = false) :
    Calls Tryd.prog 19 #[.int .u8 c, .int .i64 a, .int .i64 b, .pointer (some pa)] w fun e w' => e = .returned (.int .i64 n) ∧ w = w' := by
  have h := dof_any c a b (by rw [hd]) pa w hx hf
  rw [hd] at h
  exact h

set_option maxHeartbeats 1000000 in
theorem wordAsks_walk (a b c : Int) (_ : (Lit.int .i64 a).wf = true) (_ : (Lit.int .i64 b).wf = true) (_ : (Lit.int .i64 c).wf = true) (w : World) (G : Globs w) :
    Calls Tryd.prog 7 #[.int .i64 a, .int .i64 b, .int .i64 c] w fun e w' => e = .returned (.bool true) ∧ Below w.heap.size w w' := by
  have hG : ∀ w', Below w.heap.size w w' → Globs w' := fun w' h => G.below h
  clear G
  by_cases h1 : a < b
  · have H1 := Lib.hid (show (a == b) = false by simp; omega)
    have H2 := Lib.hid (show (a < b) = True by simp [h1])
    have H3 := Lib.hid (show (b < a) = False by simp; omega)
    have h5 : (a == b) = false := H1.out
    by_cases h4 : c < b
    · have H4 := Lib.hid (show (c < b) = True by simp [h4])
      clear h1 h4
      go_enter Tryd.func7, Tryd.ntmps7
      go_wp2_with fail
      refine (dof_lit 11 a b 0 (by simp [doV, H1.out, H2.out, H3.out, H4.out]) _ _ (by simp) (by simp)).mono ?_; rintro e w' ⟨rfl, rfl⟩
      go_wp2_with fail
      refine (dof_lit 12 a b 1 (by simp [doV, H1.out, H2.out, H3.out, H4.out]) _ _ (by simp) (by simp)).mono ?_; rintro e w' ⟨rfl, rfl⟩
      go_wp2_with fail
      refine (dof_lit 13 a b 1 (by simp [doV, H1.out, H2.out, H3.out, H4.out]) _ _ (by simp) (by simp)).mono ?_; rintro e w' ⟨rfl, rfl⟩
      go_wp2_with fail
      refine (dof_lit 14 b a 0 (by simp [doV, H1.out, H2.out, H3.out, H4.out]) _ _ (by simp) (by simp)).mono ?_; rintro e w' ⟨rfl, rfl⟩
      go_wp2_with fail
      refine (dof_lit 14 a b 1 (by simp [doV, H1.out, H2.out, H3.out, H4.out]) _ _ (by simp) (by simp)).mono ?_; rintro e w' ⟨rfl, rfl⟩
      go_wp2_with fail
      refine (dof_lit 14 b c 0 (by simp [doV, H1.out, H2.out, H3.out, H4.out]) _ _ (by simp) (by simp)).mono ?_; rintro e w' ⟨rfl, rfl⟩
      go_wp2_with (go_at_call 14; refine (alive_any _ (hG _ ((Below.refl _ _).alloc (Nat.le_refl _) _))).mono ?_; rintro e w' ⟨rfl, hb⟩)
      go_ret
      exact ⟨rfl, ((Below.refl _ _).alloc (Nat.le_refl _) _).trans (‹Below (w.alloc _).heap.size _ _›.mono (by simp))⟩
    · have H4 := Lib.hid (show (c < b) = False ∧ (c < a) = False by simp; omega)
      clear h1 h4
      go_enter Tryd.func7, Tryd.ntmps7
      go_wp2_with fail
      refine (dof_lit 11 a b 0 (by simp [doV, H1.out, H2.out, H3.out, H4.out]) _ _ (by simp) (by simp)).mono ?_; rintro e w' ⟨rfl, rfl⟩
      go_wp2_with fail
      refine (dof_lit 12 a b 1 (by simp [doV, H1.out, H2.out, H3.out, H4.out]) _ _ (by simp) (by simp)).mono ?_; rintro e w' ⟨rfl, rfl⟩
      go_wp2_with fail
      refine (dof_lit 13 a b 1 (by simp [doV, H1.out, H2.out, H3.out, H4.out]) _ _ (by simp) (by simp)).mono ?_; rintro e w' ⟨rfl, rfl⟩
      go_wp2_with fail
      refine (dof_lit 14 b a 0 (by simp [doV, H1.out, H2.out, H3.out, H4.out]) _ _ (by simp) (by simp)).mono ?_; rintro e w' ⟨rfl, rfl⟩
      go_wp2_with fail
      refine (dof_lit 14 a b 1 (by simp [doV, H1.out, H2.out, H3.out, H4.out]) _ _ (by simp) (by simp)).mono ?_; rintro e w' ⟨rfl, rfl⟩
      go_wp2_with fail
      refine (dof_lit 14 b c 1 (by simp [doV, H1.out, H2.out, H3.out, H4.out]) _ _ (by simp) (by simp)).mono ?_; rintro e w' ⟨rfl, rfl⟩
      go_wp2_with fail
      refine (dof_lit 14 a c 1 (by simp [doV, H1.out, H2.out, H3.out, H4.out]) _ _ (by simp) (by simp)).mono ?_; rintro e w' ⟨rfl, rfl⟩
      go_wp2_with (go_at_call 14; refine (alive_any _ (hG _ ((Below.refl _ _).alloc (Nat.le_refl _) _))).mono ?_; rintro e w' ⟨rfl, hb⟩)
      go_ret
      exact ⟨rfl, ((Below.refl _ _).alloc (Nat.le_refl _) _).trans (‹Below (w.alloc _).heap.size _ _›.mono (by simp))⟩
  · by_cases h2 : b < a
    · have H1 := Lib.hid (show (a == b) = false by simp; omega)
      have H2 := Lib.hid (show (a < b) = False by simp; omega)
      have H3 := Lib.hid (show (b < a) = True by simp [h2])
      have H4 := Lib.hid (show True from trivial)
      have h5 : (a == b) = false := H1.out
      clear h1 h2
      go_enter Tryd.func7, Tryd.ntmps7
      go_wp2_with fail
      refine (dof_lit 11 a b 0 (by simp [doV, H1.out, H2.out, H3.out, H4.out]) _ _ (by simp) (by simp)).mono ?_; rintro e w' ⟨rfl, rfl⟩
      go_wp2_with fail
      refine (dof_lit 12 a b 1 (by simp [doV, H1.out, H2.out, H3.out, H4.out]) _ _ (by simp) (by simp)).mono ?_; rintro e w' ⟨rfl, rfl⟩
      go_wp2_with fail
      refine (dof_lit 13 a b 0 (by simp [doV, H1.out, H2.out, H3.out, H4.out]) _ _ (by simp) (by simp)).mono ?_; rintro e w' ⟨rfl, rfl⟩
      go_wp2_with fail
      refine (dof_lit 14 b a 1 (by simp [doV, H1.out, H2.out, H3.out, H4.out]) _ _ (by simp) (by simp)).mono ?_; rintro e w' ⟨rfl, rfl⟩
      go_wp2_with fail
      refine (dof_lit 14 a b 0 (by simp [doV, H1.out, H2.out, H3.out, H4.out]) _ _ (by simp) (by simp)).mono ?_; rintro e w' ⟨rfl, rfl⟩
      go_wp2_with (go_at_call 14; refine (alive_any _ (hG _ ((Below.refl _ _).alloc (Nat.le_refl _) _))).mono ?_; rintro e w' ⟨rfl, hb⟩)
      go_ret
      exact ⟨rfl, ((Below.refl _ _).alloc (Nat.le_refl _) _).trans (‹Below (w.alloc _).heap.size _ _›.mono (by simp))⟩
    · obtain rfl : a = b := by omega
      have H1 := Lib.hid (show (a == a) = true by simp)
      have H2 := Lib.hid (show (a < a) = False by simp)
      have H3 := Lib.hid (show (a < a) = False by simp)
      clear h1 h2
      by_cases h4 : c < a
      · have H4 := Lib.hid (show (c < a) = True by simp [h4])
        clear h4
        go_enter Tryd.func7, Tryd.ntmps7
        go_wp2_with fail
        refine (dof_lit 11 a a 1 (by simp [doV, H1.out, H2.out, H3.out, H4.out]) _ _ (by simp) (by simp)).mono ?_; rintro e w' ⟨rfl, rfl⟩
        go_wp2_with fail
        refine (dof_lit 12 a a 0 (by simp [doV, H1.out, H2.out, H3.out, H4.out]) _ _ (by simp) (by simp)).mono ?_; rintro e w' ⟨rfl, rfl⟩
        go_wp2_with fail
        refine (dof_lit 13 a a 0 (by simp [doV, H1.out, H2.out, H3.out, H4.out]) _ _ (by simp) (by simp)).mono ?_; rintro e w' ⟨rfl, rfl⟩
        go_wp2_with fail
        refine (dof_lit 14 a a 1 (by simp [doV, H1.out, H2.out, H3.out, H4.out]) _ _ (by simp) (by simp)).mono ?_; rintro e w' ⟨rfl, rfl⟩
        go_wp2_with fail
        refine (dof_lit 14 a a 1 (by simp [doV, H1.out, H2.out, H3.out, H4.out]) _ _ (by simp) (by simp)).mono ?_; rintro e w' ⟨rfl, rfl⟩
        go_wp2_with fail
        refine (dof_lit 14 a c 0 (by simp [doV, H1.out, H2.out, H3.out, H4.out]) _ _ (by simp) (by simp)).mono ?_; rintro e w' ⟨rfl, rfl⟩
        go_wp2_with (go_at_call 14; refine (alive_any _ (hG _ ((Below.refl _ _).alloc (Nat.le_refl _) _))).mono ?_; rintro e w' ⟨rfl, hb⟩)
        go_ret
        exact ⟨rfl, ((Below.refl _ _).alloc (Nat.le_refl _) _).trans (‹Below (w.alloc _).heap.size _ _›.mono (by simp))⟩
      · have H4 := Lib.hid (show (c < a) = False by simp; omega)
        clear h4
        go_enter Tryd.func7, Tryd.ntmps7
        go_wp2_with fail
        refine (dof_lit 11 a a 1 (by simp [doV, H1.out, H2.out, H3.out, H4.out]) _ _ (by simp) (by simp)).mono ?_; rintro e w' ⟨rfl, rfl⟩
        go_wp2_with fail
        refine (dof_lit 12 a a 0 (by simp [doV, H1.out, H2.out, H3.out, H4.out]) _ _ (by simp) (by simp)).mono ?_; rintro e w' ⟨rfl, rfl⟩
        go_wp2_with fail
        refine (dof_lit 13 a a 0 (by simp [doV, H1.out, H2.out, H3.out, H4.out]) _ _ (by simp) (by simp)).mono ?_; rintro e w' ⟨rfl, rfl⟩
        go_wp2_with fail
        refine (dof_lit 14 a a 1 (by simp [doV, H1.out, H2.out, H3.out, H4.out]) _ _ (by simp) (by simp)).mono ?_; rintro e w' ⟨rfl, rfl⟩
        go_wp2_with fail
        refine (dof_lit 14 a a 1 (by simp [doV, H1.out, H2.out, H3.out, H4.out]) _ _ (by simp) (by simp)).mono ?_; rintro e w' ⟨rfl, rfl⟩
        go_wp2_with fail
        refine (dof_lit 14 a c 1 (by simp [doV, H1.out, H2.out, H3.out, H4.out]) _ _ (by simp) (by simp)).mono ?_; rintro e w' ⟨rfl, rfl⟩
        go_wp2_with fail
        refine (dof_lit 14 a c 1 (by simp [doV, H1.out, H2.out, H3.out, H4.out]) _ _ (by simp) (by simp)).mono ?_; rintro e w' ⟨rfl, rfl⟩
        go_wp2_with (go_at_call 14; refine (alive_any _ (hG _ ((Below.refl _ _).alloc (Nat.le_refl _) _))).mono ?_; rintro e w' ⟨rfl, hb⟩)
        go_ret
        exact ⟨rfl, ((Below.refl _ _).alloc (Nat.le_refl _) _).trans (‹Below (w.alloc _).heap.size _ _›.mono (by simp))⟩
end Go.Proofs.YtdjpnaglkonjbaaDoor
