/-
  The document's text of a number, and its reading of one.
-/
import Derived.Test.YtblnmlbkgdncnaaDoorWordGlobs
import Derived.WalkLawsBesides
import Derived.WalkSpells
import Derived.Deep.QuietTactic
import Derived.BigQuiet
import Derived.Test.YtblnmlbkgdncnaaDoorDigits
import Derived.Lib.SmallJoins
set_option linter.unusedVariables false
set_option linter.unusedSimpArgs false
namespace Go.Proofs.YtblnmlbkgdncnaaDoor
open Go.RowKit

theorem cat_bytes (a b : List UInt8) : (⟨a.toArray⟩ : ByteArray) ++ ⟨b.toArray⟩ = ⟨(a ++ b).toArray⟩ := by
  have h := Go.Joins.data_append (⟨a.toArray⟩ : ByteArray) ⟨b.toArray⟩
  cases hx : (⟨a.toArray⟩ : ByteArray) ++ ⟨b.toArray⟩ with
  | mk d =>
    rw [hx] at h
    congr
    apply Array.toList_inj.1
    simpa using h
theorem rret_str {a b : ByteArray} (h : a = b) : Ending.returned (.string a) = .returned (.string b) := by rw [h]

/-- one byte in a new row, as a text -/
theorem run_byte_text (W : World) (x : Int) :
    (convert 50 9 (.slice (some ⟨W.heap.size, 0, none⟩) 1 1)).run Tryd.prog (W.alloc (.cells #[.int .u8 x] 5)) = .ok (.string ⟨#[UInt8.ofNat x.toNat]⟩) (W.alloc (.cells #[.int .u8 x] 5)) := by
  have h := run_convert_bytes_arg (P := Tryd.prog) (W.alloc (.cells #[.int .u8 x] 5)) 50 5 Tryd.underlying50 Tryd.underlying5 W.heap.size 0 1 1 [x] rfl (fun i hi => by
    obtain rfl : i = 0 := by omega
    rw [World.cell?_alloc_at _ _ _ _ rfl]; rfl) 9 Tryd.underlying9
  rw [h]; rfl

set_option maxHeartbeats 400000 in
set_option maxRecDepth 100000 in
theorem great_any (u0 : Nat) (hu0 : (u0 : Int) ≤ 18446744073709551615) (w : World) :
    Calls Tryd.prog 52 #[.int .u64 u0] w fun e w' => e = .returned (.string ⟨(Lib.decDigits u0).toArray⟩) ∧ Below w.heap.size w w' := by
  have h0 := Lib.hid (decDigits_len 19 u0 (by omega))
  have kc := run_byte_text
  go_enter Tryd.func52, Tryd.ntmps52
  go_wp2
  go_loopw [0, 3] (fun n s wr => ∃ (u : Nat) (l : List UInt8), n = .int .u64 u ∧ s = .string ⟨l.toArray⟩ ∧ Hid (Lib.decDigits u ++ l = Lib.decDigits u0) ∧ l.length ≤ 20 ∧ (u : Int) ≤ 18446744073709551615 ∧ Below w.heap.size w wr) (fun n _ _ => (intOf n).toNat)
  case atStart => exact ⟨u0, [], rfl, rfl, by simp [Hid], by simp, hu0, Below.refl _ _⟩
  case round =>
    obtain ⟨u, l, rfl, rfl, hl, hll, hu, hb⟩ := hrel
    by_cases h10 : u < 10
    · have h9 : ¬ ((9 : Int) < (u : Int)) := by omega
      go_wp2
      go_ret
      refine ⟨rret_str ?_, hb.alloc hb.size _⟩
      rw [← hl.out, decDigits_small h10, UInt8.ofNat_add]
      exact cat_bytes [_] l
    · have h9 : ((9 : Int) < (u : Int)) := by omega
      go_wp2
      go_roundw
      case rel =>
        have h := hl.out
        rw [decDigits_step h10, List.append_assoc, UInt8.ofNat_add] at h
        have hlen := congrArg List.length h
        have hpos := decDigits_pos (u / 10)
        rw [List.length_append, List.length_append, List.length_singleton] at hlen
        exact ⟨u / 10, (48 + UInt8.ofNat (u % 10)) :: l, by go_num, congrArg Value.string (cat_bytes [_] l), h, by rw [List.length_cons]; have := h0.out; omega, by omega, hb.alloc hb.size _⟩
      case measure => simp [intOf]; omega

theorem great_int (x : Int) (h0 : 0 ≤ x) (h1 : x ≤ 18446744073709551615) (w : World) :
    Calls Tryd.prog 52 #[.int .u64 x] w fun e w' => e = .returned (.string ⟨(Lib.decDigits x.toNat).toArray⟩) ∧ Below w.heap.size w w' := by
  obtain ⟨u, rfl⟩ := Int.eq_ofNat_of_zero_le h0
  exact great_any u h1 w

set_option maxHeartbeats 400000 in
set_option maxRecDepth 100000 in
theorem rtext_any (n : Int) (h1 : -9223372036854775808 ≤ n) (h2 : n ≤ 9223372036854775807) (w : World) :
    Calls Tryd.prog 34 #[.int .i64 n] w fun e w' => e = .returned (.string ⟨(Lib.itoa n).toArray⟩) ∧ Below w.heap.size w w' := by
  by_cases hn : n < 0
  · have e0 : IntKind.u64.wrap (-IntKind.u64.wrap n) = -n := by rw [IntKind.wrap_u64, IntKind.wrap_u64]; omega
    have hl : (Lib.decDigits (-n).toNat).length ≤ 20 := decDigits_len 19 _ (by omega)
    have E := Lib.hid (show Lib.itoa n = 45 :: Lib.decDigits (-n).toNat by unfold Lib.itoa; rw [if_pos hn, show n.natAbs = (-n).toNat by omega])
    have C := Lib.hid (fun W => great_int (-n) (by omega) (by omega) W)
    clear h1 h2
    go_enter Tryd.func34, Tryd.ntmps34
    go_wp2_with fail
    refine (C.out _).mono ?_
    rintro e w1 ⟨rfl, hb⟩
    go_wp2_with fail
    go_ret
    refine ⟨rret_str ?_, hb⟩
    rw [E.out]
    exact cat_bytes [45] _
  · have e0 : IntKind.u64.wrap n = n := by rw [IntKind.wrap_u64]; omega
    have E := Lib.hid (show Lib.itoa n = Lib.decDigits n.toNat by unfold Lib.itoa; rw [if_neg hn])
    have C := Lib.hid (fun W => great_int n (by omega) (by omega) W)
    clear h1 h2
    go_enter Tryd.func34, Tryd.ntmps34
    go_wp2_with fail
    refine (C.out _).mono ?_
    rintro e w1 ⟨rfl, hb⟩
    go_wp2_with fail
    go_ret
    exact ⟨rret_str (by rw [E.out]), hb⟩

end Go.Proofs.YtblnmlbkgdncnaaDoor
