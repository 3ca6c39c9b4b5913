/-
  word.Text returns the decimal text; word.Parse the number of such a text, or the refusal.
-/
import Derived.Test.YtkkcngppmhebbaaGreatDoorWordGlobs
import Derived.Test.YtkkcngppmhebbaaGreatDoorWordOps
import Derived.WalkLawsBesides
import Derived.WalkSpells
import Derived.Deep.QuietTactic
import Derived.BigQuiet
set_option linter.unusedVariables false
set_option linter.unusedSimpArgs false
namespace Go.Proofs.YtkkcngppmhebbaaGreatDoor
open Go.RowKit

theorem below_drewN (B : Nat) (w : World) (k : Nat) : Below B w (w.drewN k) := ⟨rfl, rfl, rfl, Nat.le_refl _, fun _ _ => rfl⟩
theorem below_grow (w : World) (k : Nat) (os : Array Obj) : Below w.heap.size w (Sort.grow (w.drewN k) os) :=
  ⟨rfl, rfl, rfl, by simp [Sort.grow], fun i hi => by simp [Sort.grow, Array.getElem?_append, hi]⟩

theorem fmtint_any (n : Int) (h1 : -9223372036854775808 ≤ n) (h2 : n ≤ 9223372036854775807) (w : World) (G : Globs w) :
    Calls Tryz.prog 191 #[.int .i64 n, .int .i64 10] w fun e w' => e = .returned (.string ⟨(Lib.itoa n).toArray⟩) ∧ Below w.heap.size w w' :=
  (Tryz.strconv_FormatInt_10 n h1 h2 w G.tab).mono fun e w' ⟨he, k, os, hw⟩ => ⟨he, by rw [hw]; exact below_grow _ _ _⟩

theorem pint_ok (s : ByteArray) (hs : s.size ≤ 140737488355328) (v : Int) (h : Lib.parseIntB 64 s.data.toList = .ok v) (w : World) :
    Calls Tryz.prog 182 #[.string s, .int .i64 10, .int .i64 64] w fun e w' => e = .returned (.tuple #[.int .i64 v, .nilIface]) ∧ Below w.heap.size w w' :=
  (Tryz.strconv_ParseInt_10_at64_ok s (by omega) v h w).mono fun e w' ⟨he, hw⟩ => ⟨he, by
    rcases hw with rfl | ⟨t, rfl⟩
    · exact Below.refl _ _
    · exact Lib.bytesWorld_below _ _ _⟩

theorem pint_no (s : ByteArray) (hs : s.size ≤ 140737488355328) (h : ∀ v, Lib.parseIntB 64 s.data.toList ≠ .ok v) (w : World) (G : Globs w) :
    Calls Tryz.prog 182 #[.string s, .int .i64 10, .int .i64 64] w fun e w' => ∃ (n : Int) (N : Nat), e = .returned (.tuple #[.int .i64 n, .iface 363 (.pointer (some ⟨N, 0, none⟩))]) ∧ Below w.heap.size w w' := by
  obtain ⟨-, ⟨t1, p1, hs1⟩, ⟨t2, p2, hr1⟩⟩ := G
  cases hp : Lib.parseIntB 64 s.data.toList
  all_goals first
    | exact absurd hp (h _)
    | exact (Any.strconv_ParseInt_10_at64_syntax_var Tryz.laysC174 s (by omega) hp _ _ w hs1).mono fun e w' ⟨N, he, _, _, hb⟩ => ⟨_, N, he, hb⟩
    | exact (Any.strconv_ParseInt_10_at64_range_var Tryz.laysC174 s (by omega) hp _ _ w hr1).mono fun e w' ⟨N, he, _, _, hb⟩ => ⟨_, N, he, hb⟩

set_option maxHeartbeats 400000 in
theorem text_any (n : Int) (h1 : -9223372036854775808 ≤ n) (h2 : n ≤ 9223372036854775807) (w : World) (G : Globs w) :
    Calls Tryz.prog 173 #[.int .i64 n] w fun e w' => e = .returned (.string ⟨(Lib.itoa n).toArray⟩) ∧ Below w.heap.size w w' := by
  go_enter Tryz.func173, Tryz.ntmps173
  go_wp2_with (go_at_call 191; refine (fmtint_any _ h1 h2 _ G).mono ?_; rintro e w' ⟨rfl, hb⟩)
  go_ret
  exact ⟨rfl, hb⟩

/-- what Parse answers -/
def parseV (s : ByteArray) : Int × Int :=
  match Lib.parseIntB 64 s.data.toList with
  | .ok v => if Lib.itoa v = s.data.toList then (v, 0) else (0, 13)
  | _ => (0, 13)

theorem parseIntB_bounds {l : List UInt8} {v : Int} (h : Lib.parseIntB 64 l = .ok v) : -9223372036854775808 ≤ v ∧ v ≤ 9223372036854775807 := by
  unfold Lib.parseIntB at h
  split at h
  · cases h
  · simp only at h
    split at h
    · cases h
    · cases h
    · rename_i u hu
      split at h
      · cases h
      · split at h
        · cases h
        · injection h with h
          subst h
          split <;> omega

set_option maxHeartbeats 400000 in
theorem parse_any (s : ByteArray) (hs : s.size ≤ 140737488355328) (w : World) (G : Globs w) :
    Calls Tryz.prog 109 #[.string s] w fun e w' => e = .returned (.tuple #[.int .i64 (parseV s).1, .int .i64 (parseV s).2]) ∧ Below w.heap.size w w' := by
  by_cases h : ∃ v, Lib.parseIntB 64 s.data.toList = .ok v
  · obtain ⟨v, hv⟩ := h
    obtain ⟨b1, b2⟩ := parseIntB_bounds hv
    have hP : parseV s = if Lib.itoa v = s.data.toList then (v, 0) else (0, 13) := by simp [parseV, hv]
    rw [hP]; clear hP
    have HV := Lib.hid hv; clear hv
    by_cases he : Lib.itoa v = s.data.toList
    · have hb : (!Lib.itoa v == s.toList) = false := by simp [ByteArray.toList_eq, he]
      rw [if_pos he]
      clear he
      go_enter Tryz.func109, Tryz.ntmps109
      go_wp2_with fail
      refine (pint_ok s hs v HV.out _).mono ?_
      rintro e w1 ⟨rfl, hb1⟩
      go_wp2_with fail
      refine (text_any v b1 b2 _ (G.below hb1)).mono ?_
      rintro e w2 ⟨rfl, hb2⟩
      go_wp2_with fail
      go_ret2
      exact ⟨rfl, hb1.trans (hb2.mono hb1.size)⟩
    · have hb : (!Lib.itoa v == s.toList) = true := by simp [ByteArray.toList_eq, he]
      rw [if_neg he]
      clear he
      go_enter Tryz.func109, Tryz.ntmps109
      go_wp2_with fail
      refine (pint_ok s hs v HV.out _).mono ?_
      rintro e w1 ⟨rfl, hb1⟩
      go_wp2_with fail
      refine (text_any v b1 b2 _ (G.below hb1)).mono ?_
      rintro e w2 ⟨rfl, hb2⟩
      go_wp2_with fail
      go_ret2
      exact ⟨rfl, hb1.trans (hb2.mono hb1.size)⟩
  · have hv : ∀ v, Lib.parseIntB 64 s.data.toList ≠ .ok v := fun v hv => h ⟨v, hv⟩
    have hP : parseV s = (0, 13) := by
      unfold parseV
      split
      · rename_i v hv'; exact absurd hv' (hv v)
      · rfl
    rw [hP]; clear hP h
    have HV := Lib.hid hv; clear hv
    go_enter Tryz.func109, Tryz.ntmps109
    go_wp2_with fail
    refine (pint_no s hs HV.out _ G).mono ?_
    rintro e w1 ⟨n, N, rfl, hb1⟩
    go_wp2_with fail
    go_ret2
    exact ⟨rfl, hb1⟩

/-! ### the law's own check that the program does something at all -/
theorem parse_m7 : parseV ⟨#[45, 55]⟩ = (-7, 0) := by
  simp [parseV, Lib.parseIntB, Lib.parseUintB, Lib.parseUintM, Lib.itoa, Lib.decDigits]
theorem text_m12 : Lib.itoa (-12) = [45, 49, 50] := by
  simp [Lib.itoa, Lib.decDigits]
theorem do_1 : doV 1 2 3 = (5, 0) := by decide +kernel
theorem do_2 : doV 4 1 0 = (0, 4) := by decide +kernel

end Go.Proofs.YtkkcngppmhebbaaGreatDoor
