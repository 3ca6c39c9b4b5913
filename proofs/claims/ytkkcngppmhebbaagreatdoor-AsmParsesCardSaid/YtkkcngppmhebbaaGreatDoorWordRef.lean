/-
  The document's text of a number, and its reading of one.
-/
import Derived.Test.YtkkcngppmhebbaaGreatDoorWordText
import Derived.Test.YtkkcngppmhebbaaGreatDoorDigits
import Derived.Lib.SmallJoins
set_option linter.unusedVariables false
set_option linter.unusedSimpArgs false
namespace Go.Proofs.YtkkcngppmhebbaaGreatDoor
open Go.RowKit

theorem cat_bytes (a b : List UInt8) : (⟨a.toArray⟩ : ByteArray) ++ ⟨b.toArray⟩ = ⟨(a ++ b).toArray⟩ := by
  have h := Go.Joins.data_append (⟨a.toArray⟩ : ByteArray) ⟨b.toArray⟩
  cases hx : (⟨a.toArray⟩ : ByteArray) ++ ⟨b.toArray⟩ with
  | mk d =>
    rw [hx] at h
    congr
    apply Array.toList_inj.1
    simpa using h
theorem ret_str {a b : ByteArray} (h : a = b) : Ending.returned (.string a) = .returned (.string b) := by rw [h]

/-- one byte in a new row, as a text -/
theorem run_byte_text (W : World) (x : Int) :
    (convert 114 9 (.slice (some ⟨W.heap.size, 0, none⟩) 1 1)).run Tryz.prog (W.alloc (.cells #[.int .u8 x] 5)) = .ok (.string ⟨#[UInt8.ofNat x.toNat]⟩) (W.alloc (.cells #[.int .u8 x] 5)) := by
  have h := run_convert_bytes_arg (P := Tryz.prog) (W.alloc (.cells #[.int .u8 x] 5)) 114 5 Tryz.underlying114 Tryz.underlying5 W.heap.size 0 1 1 [x] rfl (fun i hi => by
    obtain rfl : i = 0 := by omega
    rw [World.cell?_alloc_at _ _ _ _ rfl]; rfl) 9 Tryz.underlying9
  rw [h]; rfl

theorem digV_eq {l : List UInt8} {M : Nat} {p : Nat × Bool} (h : digitsV l M = p) : (Ending.returned (.tuple #[.int .u64 p.1, .bool p.2])) = .returned (.tuple #[.int .u64 (digitsV l M).1, .bool (digitsV l M).2]) := by rw [h]

set_option maxHeartbeats 1000000 in
set_option maxRecDepth 100000 in
theorem digits_nat (l : List UInt8) (hl : l.length ≤ 140737488355328) (M : Nat) (hm : 9 ≤ M) (hm2 : (M : Int) ≤ 18446744073709551615) (w : World) :
    Calls Tryz.prog 186 #[.string ⟨l.toArray⟩, .int .u64 M] w fun e w' => e = .returned (.tuple #[.int .u64 (digitsV l M).1, .bool (digitsV l M).2]) ∧ w = w' := by
  by_cases hbad : l.length < 1 ∨ 20 < l.length ∨ (1 < l.length ∧ (l.headD 0).toNat = 48)
  · have hV : digitsV l M = (0, false) := by unfold digitsV; rw [if_pos hbad]
    have E := Lib.hid (digV_eq hV)
    clear hV
    rcases hbad with h | h | ⟨h, h48⟩
    · obtain rfl : l = [] := List.eq_nil_of_length_eq_zero (by omega)
      clear h
      go_enter Tryz.func186, Tryz.ntmps186
      go_wp2
      go_ret2
      exact ⟨E.out, rfl⟩
    · go_enter Tryz.func186, Tryz.ntmps186
      go_wp2
      go_ret2
      exact ⟨E.out, rfl⟩
    · have hget : ∀ h, ((⟨l.toArray⟩ : ByteArray)[0]'h).toNat = 48 := fun h => by
        cases l with
        | nil => exact (Nat.lt_irrefl 0 h).elim
        | cons c r => exact h48
      clear h48
      by_cases h20 : 20 < l.length
      · clear hget
        go_enter Tryz.func186, Tryz.ntmps186
        go_wp2
        go_ret2
        exact ⟨E.out, rfl⟩
      · go_enter Tryz.func186, Tryz.ntmps186
        go_wp2
        go_ret2
        exact ⟨E.out, rfl⟩
  · have hV : digitsV l M = digLoop M 0 l := by unfold digitsV; rw [if_neg hbad]
    have HV := Lib.hid hV
    have hl1 : 1 ≤ l.length := by omega
    have hl2 : l.length ≤ 20 := by omega
    have hne : ∀ h, (1 : Nat) < l.length → (((⟨l.toArray⟩ : ByteArray)[0]'h).toNat : Int) ≠ 48 := fun h h1 => by
      cases l with
      | nil => exact (Nat.lt_irrefl 0 h).elim
      | cons c r => intro e; exact hbad (.inr (.inr ⟨h1, by simpa using (by exact_mod_cast e : _ = 48)⟩))
    clear hbad hV
    by_cases h1 : 1 < l.length
    · have hne1 : ∀ h, ((((⟨l.toArray⟩ : ByteArray)[0]'h).toNat : Int) == 48) = false := fun h => by simpa using hne h h1
      clear hne
      go_enter Tryz.func186, Tryz.ntmps186
      go_wp2
      go_loop [6, 7, 8] (fun n i _ => ∃ (k a : Nat), k ≤ l.length ∧ i = .int .i64 k ∧ n = .int .u64 a ∧ a ≤ M ∧ Hid (digLoop M a (l.drop k) = digLoop M 0 l)) (fun _ i _ => l.length - (intOf i).toNat)
      case atStart => exact ⟨0, 0, by omega, rfl, rfl, by omega, rfl⟩
      case round =>
        obtain ⟨k, a, hk, rfl, rfl, ha, hH⟩ := hrel
        by_cases hlt : k < l.length
        · have hget : ∀ h, ((⟨l.toArray⟩ : ByteArray)[k]'h) = l[k] := fun h => rfl
          have hstep : Hid (digLoop M a (l[k] :: l.drop (k + 1)) = digLoop M 0 l) := by
            have := hH.out; rw [List.drop_eq_getElem_cons hlt] at this; exact this
          clear hH
          by_cases hc : l[k].toNat < 48 ∨ 57 < l[k].toNat
          · have E := Lib.hid (digV_eq (p := (0, false)) (by rw [HV.out, ← hstep.out]; unfold digLoop; rw [if_pos hc]))
            rcases hc with hc | hc
            all_goals
              go_wp2
              go_ret2
              exact ⟨E.out, rfl⟩
          · have hc1 : 48 ≤ l[k].toNat := by omega
            have hc2 : l[k].toNat ≤ 57 := by omega
            by_cases hd : (M - (l[k].toNat - 48)) / 10 < a
            · have E := Lib.hid (digV_eq (p := (0, false)) (by rw [HV.out, ← hstep.out]; unfold digLoop; rw [if_neg hc, if_pos hd]))
              have hd' : ((M : Int) - ((l[k].toNat : Int) - 48)) / 10 < (a : Int) := by omega
              clear hc hd
              go_wp2
              go_ret2
              exact ⟨E.out, rfl⟩
            · have hd' : ¬ ((M : Int) - ((l[k].toNat : Int) - 48)) / 10 < (a : Int) := by omega
              have hH : Hid (digLoop M (a * 10 + (l[k].toNat - 48)) (l.drop (k + 1)) = digLoop M 0 l) := by
                have := hstep.out; rw [digLoop, if_neg hc, if_neg hd] at this; exact this
              clear hc hd hstep
              go_wp2
              go_round
              case rel => exact ⟨k + 1, a * 10 + (l[k].toNat - 48), by omega, by go_num, by congr 1; omega, by omega, hH⟩
              case measure => simp [intOf]; omega
        · have E := Lib.hid (digV_eq (p := (a, true)) (by rw [HV.out, ← hH.out, show k = l.length by omega, List.drop_length]; rfl))
          clear hH
          go_wp2
          go_ret2
          exact ⟨E.out, rfl⟩
    · clear hne
      go_enter Tryz.func186, Tryz.ntmps186
      go_wp2
      go_loop [6, 7, 8] (fun n i _ => ∃ (k a : Nat), k ≤ l.length ∧ i = .int .i64 k ∧ n = .int .u64 a ∧ a ≤ M ∧ Hid (digLoop M a (l.drop k) = digLoop M 0 l)) (fun _ i _ => l.length - (intOf i).toNat)
      case atStart => exact ⟨0, 0, by omega, rfl, rfl, by omega, rfl⟩
      case round =>
        obtain ⟨k, a, hk, rfl, rfl, ha, hH⟩ := hrel
        by_cases hlt : k < l.length
        · have hget : ∀ h, ((⟨l.toArray⟩ : ByteArray)[k]'h) = l[k] := fun h => rfl
          have hstep : Hid (digLoop M a (l[k] :: l.drop (k + 1)) = digLoop M 0 l) := by
            have := hH.out; rw [List.drop_eq_getElem_cons hlt] at this; exact this
          clear hH
          by_cases hc : l[k].toNat < 48 ∨ 57 < l[k].toNat
          · have E := Lib.hid (digV_eq (p := (0, false)) (by rw [HV.out, ← hstep.out]; unfold digLoop; rw [if_pos hc]))
            rcases hc with hc | hc
            all_goals
              go_wp2
              go_ret2
              exact ⟨E.out, rfl⟩
          · have hc1 : 48 ≤ l[k].toNat := by omega
            have hc2 : l[k].toNat ≤ 57 := by omega
            by_cases hd : (M - (l[k].toNat - 48)) / 10 < a
            · have E := Lib.hid (digV_eq (p := (0, false)) (by rw [HV.out, ← hstep.out]; unfold digLoop; rw [if_neg hc, if_pos hd]))
              have hd' : ((M : Int) - ((l[k].toNat : Int) - 48)) / 10 < (a : Int) := by omega
              clear hc hd
              go_wp2
              go_ret2
              exact ⟨E.out, rfl⟩
            · have hd' : ¬ ((M : Int) - ((l[k].toNat : Int) - 48)) / 10 < (a : Int) := by omega
              have hH : Hid (digLoop M (a * 10 + (l[k].toNat - 48)) (l.drop (k + 1)) = digLoop M 0 l) := by
                have := hstep.out; rw [digLoop, if_neg hc, if_neg hd] at this; exact this
              clear hc hd hstep
              go_wp2
              go_round
              case rel => exact ⟨k + 1, a * 10 + (l[k].toNat - 48), by omega, by go_num, by congr 1; omega, by omega, hH⟩
              case measure => simp [intOf]; omega
        · have E := Lib.hid (digV_eq (p := (a, true)) (by rw [HV.out, ← hH.out, show k = l.length by omega, List.drop_length]; rfl))
          clear hH
          go_wp2
          go_ret2
          exact ⟨E.out, rfl⟩
end Go.Proofs.YtkkcngppmhebbaaGreatDoor
