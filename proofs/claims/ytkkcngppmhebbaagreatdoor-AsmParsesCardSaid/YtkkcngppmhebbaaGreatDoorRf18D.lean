/-
  The document's reader: where a label lies, one label more.
-/
import Derived.Test.YtkkcngppmhebbaaGreatDoorRf18C
import Derived.Test.YtkkcngppmhebbaaGreatDoorRegion
set_option linter.unusedVariables false
set_option linter.unusedSimpArgs false
namespace Go.Proofs.YtkkcngppmhebbaaGreatDoor
open Go.RowKit

theorem own_cellat {W : World} {B e n c : Nat} {A : Option Addr} {xs : List Value} (h : W.ownsRow B e 1 (.slice A n c) n xs) {i : Nat} {u : Value} (hu : xs[i]? = some u) : ∃ g, A = some ⟨g, 0, none⟩ ∧ W.cell? ⟨g, i, none⟩ = some u := by
  have hi := (List.getElem?_eq_some_iff.1 hu).1
  have hl := h.1
  rcases h.2 with ⟨-, h0⟩ | ⟨g, cap, cur, hv, -⟩
  · omega
  · injection hv with h1 _ _
    subst h1
    refine ⟨g, rfl, ?_⟩
    have := h.cells (g := g) rfl i u hu
    have hadd : (⟨g, 0, none⟩ : Addr).add i = ⟨g, i, none⟩ := by unfold Addr.add; split <;> simp_all
    rw [hadd] at this
    exact this
theorem lookV_zip : ∀ (labs : List (List UInt8)) (plcs : List Nat) (w : List UInt8), labs.length = plcs.length → ∀ (i : Nat), (∀ k, k < i → labs[k]? ≠ some w) →
    (∀ x p, labs[i]? = some x → plcs[i]? = some p → x = w → lookV w (labs.zip plcs) = some p) ∧ (i = labs.length → lookV w (labs.zip plcs) = none)
  | [], plcs, w, hl, i, hn => ⟨fun x p hx => by simp at hx, fun _ => by simp [lookV]⟩
  | y :: labs, [], w, hl, i, hn => by simp at hl
  | y :: labs, q :: plcs, w, hl, i, hn => by
    cases i with
    | zero =>
      refine ⟨fun x p hx hp hxw => ?_, fun h => by simp at h⟩
      simp only [List.getElem?_cons_zero, Option.some.injEq] at hx hp
      rw [List.zip_cons_cons, lookV, if_pos (by rw [hx]; exact hxw), hp]
    | succ i =>
      have h0 := hn 0 (by omega)
      have hy : y ≠ w := fun e => h0 (by simp [e])
      obtain ⟨h1, h2⟩ := lookV_zip labs plcs w (by simpa using hl) i (fun k hk => by
        have := hn (k + 1) (by omega)
        simpa using this)
      refine ⟨fun x p hx hp hxw => ?_, fun h => ?_⟩
      · rw [List.zip_cons_cons, lookV, if_neg hy]
        exact h1 x p (by simpa using hx) (by simpa using hp) hxw
      · rw [List.zip_cons_cons, lookV, if_neg hy]
        exact h2 (by simpa using h)

set_option maxHeartbeats 4000000 in
set_option maxRecDepth 100000 in
theorem rplace_any (RB : Nat) (ops : List Cmd) (labs : List (List UInt8)) (plcs : List Nat) (gls : List (Nat × Nat × List UInt8)) (vo vl vp vg : Value) (x : List UInt8) (w : World) (h : RfS RB ops labs plcs gls vo vl vp vg w)
    (hn : labs.length = plcs.length) (hl : labs.length ≤ 100000) (hp : ∀ p ∈ plcs, p ≤ 1000000) :
    Calls Tryz.prog 21 #[.pointer (some ⟨RB, 0, none⟩), .string ⟨x.toArray⟩] w fun e w' => e = .returned (.int .i64 (match lookV x (labs.zip plcs) with | some p => (p : Int) | none => -1)) ∧ w = w' := by
  obtain ⟨V, hV⟩ : ∃ V : Int, (match lookV x (labs.zip plcs) with | some p => (p : Int) | none => -1) = V := ⟨_, rfl⟩
  rw [hV]
  have HV := Lib.hid hV
  clear hV
  obtain ⟨Al, cl, rfl⟩ := own_slice h.lab
  obtain ⟨Ap, cp, rfl⟩ := own_slice h.plc
  have r1 := cell_of h.blk 1
  have r2 := cell_of h.blk 2
  simp only [List.getElem?_toArray, List.getElem?_cons_zero, List.getElem?_cons_succ] at r1 r2
  have HH := Lib.hid h
  have HN := Lib.hid hn
  have HP := Lib.hid hp
  clear h hn hp
  go_enter Tryz.func21, Tryz.ntmps21
  go_wp2_with fail
  go_loopw [5] (fun ii wr => ∃ i : Nat, ii = .int .i64 i ∧ i ≤ labs.length ∧ Hid (∀ k, k < i → labs[k]? ≠ some x) ∧ wr = w) (fun ii _ => labs.length - (intOf ii).toNat)
  case atStart => exact ⟨0, rfl, Nat.zero_le _, Lib.hid (fun k hk => absurd hk (Nat.not_lt_zero k)), rfl⟩
  case round =>
    obtain ⟨i, rfl, hi, hE, rfl⟩ := hrel
    have hz := Lib.hid (lookV_zip labs plcs x HN.out i hE.out)
    have p2 : (0 : Int) ≤ (i : Int) := Int.natCast_nonneg _
    by_cases hlt : i < labs.length
    · obtain ⟨y, hy⟩ : ∃ y, labs[i]? = some y := ⟨_, List.getElem?_eq_getElem hlt⟩
      obtain ⟨p, hp⟩ : ∃ p, plcs[i]? = some p := ⟨_, List.getElem?_eq_getElem (by rw [← HN.out]; exact hlt)⟩
      obtain ⟨g1, hA1, c1⟩ := own_cellat HH.out.lab (i := i) (u := .string ⟨y.toArray⟩) (by rw [List.getElem?_map, hy]; rfl)
      obtain ⟨g2, hA2, c2⟩ := own_cellat HH.out.plc (i := i) (u := .int .i64 (p : Int)) (by rw [List.getElem?_map, hp]; rfl)
      subst hA1
      subst hA2
      have p1 : (i : Int) < (labs.length : Int) := by omega
      have p3 : (i : Int) < (plcs.length : Int) := by have := HN.out; omega
      by_cases heq : y = x
      · have t1 : (y == x) = true := by simpa using heq
        have F : Hid ((p : Int) = V) := Lib.hid (by rw [← HV.out, hz.out.1 y p hy hp heq])
        clear heq hz hE hy hp
        go_wp2_with fail
        go_ret
        exact ⟨by rw [F.out]; rfl, rfl⟩
      · have t1 : (y == x) = false := by simpa using heq
        have hE2 : Hid (∀ k, k < i + 1 → labs[k]? ≠ some x) := Lib.hid fun k hk => by
          rcases Nat.lt_or_ge k i with h | h
          · exact hE.out k h
          · obtain rfl : k = i := by omega
            rw [hy]
            exact fun e => heq (by injection e)
        clear heq hz hE hy hp
        go_wp2_with fail
        go_roundw
        case rel => exact ⟨i + 1, by go_num, by omega, hE2, by first | rfl | trivial⟩
        case measure => simp [intOf]; omega
    · obtain rfl : i = labs.length := by omega
      have F : Hid ((-1 : Int) = V) := Lib.hid (by rw [← HV.out, hz.out.2 rfl])
      clear hz hE hlt
      go_wp2_with fail
      go_ret
      exact ⟨by rw [F.out]; rfl, rfl⟩
end Go.Proofs.YtkkcngppmhebbaaGreatDoor
