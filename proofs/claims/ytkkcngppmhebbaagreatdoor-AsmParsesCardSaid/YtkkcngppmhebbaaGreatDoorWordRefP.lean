/-
  The document's reading of a number; it answers as the program's does.
-/
import Derived.Test.YtkkcngppmhebbaaGreatDoorWordRef
set_option linter.unusedVariables false
set_option linter.unusedSimpArgs false
namespace Go.Proofs.YtkkcngppmhebbaaGreatDoor
open Go.RowKit

theorem digits_any (l : List UInt8) (hl : l.length ≤ 140737488355328) (most : Int) (hm : 9 ≤ most) (hm2 : most ≤ 18446744073709551615) (w : World) :
    Calls Tryz.prog 186 #[.string ⟨l.toArray⟩, .int .u64 most] w fun e w' => e = .returned (.tuple #[.int .u64 (digitsV l most.toNat).1, .bool (digitsV l most.toNat).2]) ∧ w = w' := by
  obtain ⟨M, rfl⟩ := Int.eq_ofNat_of_zero_le (show 0 ≤ most by omega)
  exact digits_nat l hl M (by omega) hm2 w

/-- what the document's Parse answers -/
def rparseV (l : List UInt8) : Int × Int :=
  if l.head? = some 45 then
    (if (digitsV l.tail 9223372036854775808).2 = false ∨ (digitsV l.tail 9223372036854775808).1 = 0 then (0, 13) else (-((digitsV l.tail 9223372036854775808).1 : Int), 0))
  else (if (digitsV l 9223372036854775807).2 = false then (0, 13) else ((digitsV l 9223372036854775807).1, 0))

theorem parseV_of {l : List UInt8} {v : Int} (h1 : -9223372036854775808 ≤ v) (h2 : v ≤ 9223372036854775807) (h : l = Lib.itoa v) : parseV ⟨l.toArray⟩ = (v, 0) := by
  have hp := parseIntB_itoa v h1 h2
  unfold parseV
  show (match Lib.parseIntB 64 l.toArray.toList with | .ok v => _ | _ => _) = _
  rw [List.toList_toArray, h, hp]
  exact if_pos rfl
theorem parseV_no {l : List UInt8} (h : ∀ v, -9223372036854775808 ≤ v → v ≤ 9223372036854775807 → l ≠ Lib.itoa v) : parseV ⟨l.toArray⟩ = (0, 13) := by
  unfold parseV
  split
  · rename_i v hv
    obtain ⟨b1, b2⟩ := parseIntB_bounds hv
    rw [if_neg]
    intro e
    exact h v b1 b2 (by simpa using e.symm)
  · rfl

theorem rparseV_eq (l : List UInt8) : rparseV l = parseV ⟨l.toArray⟩ := by
  unfold rparseV
  by_cases h45 : l.head? = some 45
  · rw [if_pos h45]
    obtain ⟨r, rfl⟩ : ∃ r, l = 45 :: r := by
      cases l with
      | nil => simp at h45
      | cons c r => exact ⟨r, by simp at h45; rw [h45]⟩
    rw [List.tail_cons]
    have hno : ∀ v : Int, ¬ v < 0 → (45 :: r : List UInt8) ≠ Lib.itoa v := fun v hv e => by
      rw [show Lib.itoa v = Lib.decDigits v.toNat from if_neg hv] at e
      have := (decDigits_facts v.toNat v.toNat (Nat.le_refl _)).1 45 (by rw [← e]; simp)
      revert this; decide
    split
    · rename_i hd
      rw [parseV_no]
      intro v h1 h2 e
      by_cases hv : v < 0
      · rw [show Lib.itoa v = 45 :: Lib.decDigits v.natAbs from if_pos hv] at e
        injection e with _ e
        rw [e, digitsV_dec v.natAbs _ (by omega) (by decide) (by decide)] at hd
        rcases hd with hd | hd
        · cases hd
        · simp at hd; omega
      · exact hno v hv e
    · rename_i hd
      have ht : (digitsV r 9223372036854775808).2 = true := by
        cases h : (digitsV r 9223372036854775808).2
        · exact absurd (.inl h) hd
        · rfl
      have hn : (digitsV r 9223372036854775808).1 ≠ 0 := fun e => hd (.inr e)
      obtain ⟨e, hle⟩ := digitsV_ok (l := r) (most := 9223372036854775808) (n := (digitsV r 9223372036854775808).1) (by decide) (Prod.ext rfl ht)
      rw [parseV_of (v := -((digitsV r 9223372036854775808).1 : Int)) (by omega) (by omega)]
      unfold Lib.itoa
      rw [if_pos (by omega), Int.natAbs_neg, Int.natAbs_natCast, ← e]
  · rw [if_neg h45]
    split
    · rename_i hd
      rw [parseV_no]
      intro v h1 h2 e
      by_cases hv : v < 0
      · rw [show Lib.itoa v = 45 :: Lib.decDigits v.natAbs from if_pos hv] at e
        exact h45 (by rw [e]; rfl)
      · rw [show Lib.itoa v = Lib.decDigits v.toNat from if_neg hv] at e
        rw [e, digitsV_dec v.toNat _ (by omega) (by decide) (by decide)] at hd
        cases hd
    · rename_i hd
      have ht : (digitsV l 9223372036854775807).2 = true := by
        cases h : (digitsV l 9223372036854775807).2
        · exact absurd h hd
        · rfl
      obtain ⟨e, hle⟩ := digitsV_ok (l := l) (most := 9223372036854775807) (n := (digitsV l 9223372036854775807).1) (by decide) (Prod.ext rfl ht)
      rw [parseV_of (v := ((digitsV l 9223372036854775807).1 : Int)) (by omega) (by omega)]
      unfold Lib.itoa
      rw [if_neg (by omega), Int.toNat_natCast, ← e]

theorem rp_eq {l : List UInt8} {p : Int × Int} (h : rparseV l = p) : (Ending.returned (.tuple #[.int .i64 p.1, .int .i64 p.2])) = .returned (.tuple #[.int .i64 (parseV ⟨l.toArray⟩).1, .int .i64 (parseV ⟨l.toArray⟩).2]) := by rw [← rparseV_eq, h]

set_option maxHeartbeats 1000000 in
set_option maxRecDepth 100000 in
theorem rparse_any (l : List UInt8) (hl : l.length ≤ 140737488355328) (w : World) :
    Calls Tryz.prog 116 #[.string ⟨l.toArray⟩] w fun e w' => e = .returned (.tuple #[.int .i64 (parseV ⟨l.toArray⟩).1, .int .i64 (parseV ⟨l.toArray⟩).2]) ∧ w = w' := by
  by_cases h45 : l.head? = some 45
  · obtain ⟨r, rfl⟩ : ∃ r, l = 45 :: r := by
      cases l with
      | nil => simp at h45
      | cons c r => exact ⟨r, by simp at h45; rw [h45]⟩
    have hr : r.length ≤ 140737488355328 := by simp at hl; omega
    have E : ∀ p, (if (digitsV r 9223372036854775808).2 = false ∨ (digitsV r 9223372036854775808).1 = 0 then ((0 : Int), (13 : Int)) else (-((digitsV r 9223372036854775808).1 : Int), 0)) = p → rparseV (45 :: r) = p := fun p h => by
      unfold rparseV; rw [if_pos h45]; exact h
    have c0 : ∀ W, Calls Tryz.prog 186 #[.string ⟨r.toArray⟩, .int .u64 9223372036854775808] W fun e w' => e = .returned (.tuple #[.int .u64 (digitsV r 9223372036854775808).1, .bool (digitsV r 9223372036854775808).2]) ∧ W = w' := fun W => digits_any r hr 9223372036854775808 (by decide) (by decide) W
    have hsl : ∀ n, n = r.length + 1 → (⟨(45 :: r).toArray⟩ : ByteArray).extract 1 n = ⟨r.toArray⟩ := fun n hn => by
      subst hn
      apply ByteArray.ext
      simp [ByteArray.data_extract]
    have hsl1 := hsl (r.length + 1) rfl
    have hb : ∀ h, ((((⟨(45 :: r).toArray⟩ : ByteArray)[0]'h).toNat : Int) == 45) = true := fun h => rfl
    have hle : (digitsV r 9223372036854775808).2 = true → (digitsV r 9223372036854775808).1 ≤ 9223372036854775808 := fun h => (digitsV_ok (l := r) (most := 9223372036854775808) (n := (digitsV r 9223372036854775808).1) (by decide) (Prod.ext rfl h)).2
    clear hsl h45 hl
    generalize digitsV r 9223372036854775808 = d at *
    obtain ⟨n, ok⟩ := d
    cases ok
    · have F := Lib.hid (rp_eq (E (0, 13) (if_pos (.inl rfl))))
      have C := Lib.hid c0
      clear E c0 hle
      go_enter Tryz.func116, Tryz.ntmps116
      go_wp2_with fail
      refine (C.out _).mono ?_
      rintro e w1 ⟨rfl, rfl⟩
      go_wp2_with fail
      go_ret2
      exact ⟨F.out, rfl⟩
    · by_cases hn : n = 0
      · subst hn
        have F := Lib.hid (rp_eq (E (0, 13) (if_pos (.inr rfl))))
        have C := Lib.hid c0
        clear E c0 hle
        go_enter Tryz.func116, Tryz.ntmps116
        go_wp2_with fail
        refine (C.out _).mono ?_
        rintro e w1 ⟨rfl, rfl⟩
        go_wp2_with fail
        go_ret2
        exact ⟨F.out, rfl⟩
      · have F := Lib.hid (rp_eq (E (-(n : Int), 0) (if_neg (by rintro (h | h); exact absurd h (by simp); exact hn h))))
        have C := Lib.hid c0
        have hle' : n ≤ 9223372036854775808 := hle rfl
        have hn0 : ((n : Int) == 0) = false := by simpa using hn
        have hw : wrap64 (IntKind.u64.wrap (-(n : Int))) = -(n : Int) := by rw [IntKind.wrap_u64]; unfold wrap64; omega
        have F2 : Hid (Ending.returned (.tuple #[.int .i64 (wrap64 (IntKind.u64.wrap (-(n : Int)))), .int .i64 0]) = .returned (.tuple #[.int .i64 (parseV ⟨(45 :: r).toArray⟩).1, .int .i64 (parseV ⟨(45 :: r).toArray⟩).2])) := Lib.hid (by rw [hw]; exact F.out)
        clear E c0 hle hn hle' hw F
        go_enter Tryz.func116, Tryz.ntmps116
        go_wp2_with fail
        refine (C.out _).mono ?_
        rintro e w1 ⟨rfl, rfl⟩
        go_wp2_with fail
        go_ret2
        exact ⟨F2.out, rfl⟩
  · have E : ∀ p, (if (digitsV l 9223372036854775807).2 = false then ((0 : Int), (13 : Int)) else (((digitsV l 9223372036854775807).1 : Int), 0)) = p → rparseV l = p := fun p h => by
      unfold rparseV; rw [if_neg h45]; exact h
    have c0 : ∀ W, Calls Tryz.prog 186 #[.string ⟨l.toArray⟩, .int .u64 9223372036854775807] W fun e w' => e = .returned (.tuple #[.int .u64 (digitsV l 9223372036854775807).1, .bool (digitsV l 9223372036854775807).2]) ∧ W = w' := fun W => digits_any l hl 9223372036854775807 (by decide) (by decide) W
    have hb : ∀ h, ((((⟨l.toArray⟩ : ByteArray)[0]'h).toNat : Int) == 45) = false := fun h => by
      cases l with
      | nil => exact (Nat.lt_irrefl 0 h).elim
      | cons c r =>
        have : c ≠ 45 := fun e => h45 (by rw [e]; rfl)
        show (((c.toNat : Nat) : Int) == 45) = false
        rw [beq_eq_false_iff_ne]
        intro e
        exact this (UInt8.toNat_inj.1 (by exact_mod_cast e))
    have hle : (digitsV l 9223372036854775807).2 = true → (digitsV l 9223372036854775807).1 ≤ 9223372036854775807 := fun h => (digitsV_ok (l := l) (most := 9223372036854775807) (n := (digitsV l 9223372036854775807).1) (by decide) (Prod.ext rfl h)).2
    clear h45
    generalize digitsV l 9223372036854775807 = d at *
    obtain ⟨n, ok⟩ := d
    cases ok
    · have F := Lib.hid (rp_eq (E (0, 13) (if_pos rfl)))
      have C := Lib.hid c0
      clear E c0 hle
      by_cases h0 : 0 < l.length
      all_goals
        go_enter Tryz.func116, Tryz.ntmps116
        go_wp2_with fail
        refine (C.out _).mono ?_
        rintro e w1 ⟨rfl, rfl⟩
        go_wp2_with fail
        go_ret2
        exact ⟨F.out, rfl⟩
    · have F := Lib.hid (rp_eq (E ((n : Int), 0) (if_neg (by simp))))
      have C := Lib.hid c0
      have hle' : (n : Int) ≤ 9223372036854775807 := by have := hle rfl; simp only at this; omega
      clear E c0 hle
      by_cases h0 : 0 < l.length
      all_goals
        go_enter Tryz.func116, Tryz.ntmps116
        go_wp2_with fail
        refine (C.out _).mono ?_
        rintro e w1 ⟨rfl, rfl⟩
        go_wp2_with fail
        go_ret2
        exact ⟨F.out, rfl⟩

end Go.Proofs.YtkkcngppmhebbaaGreatDoor
