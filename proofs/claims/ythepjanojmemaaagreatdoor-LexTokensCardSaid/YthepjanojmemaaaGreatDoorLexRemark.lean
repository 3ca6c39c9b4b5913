/-
  lex.remark walked.
-/
import Derived.Test.YthepjanojmemaaaGreatDoorLexSign
set_option linter.unusedVariables false
set_option linter.unusedSimpArgs false
namespace Go.Proofs.YthepjanojmemaaaGreatDoor
open Go.RowKit

theorem extract_drop (s : List UInt8) (a : Nat) : (⟨s.toArray⟩ : ByteArray).extract a s.length = ⟨(s.drop a).toArray⟩ := by
  rw [extract_list, List.take_of_length_le (by simp)]
theorem indexByte_le (l : List UInt8) (c : UInt8) : Lib.indexByte l c ≤ l.length := by
  induction l with
  | nil => exact (by decide : (-1 : Int) ≤ 0)
  | cons b l ih =>
    unfold Lib.indexByte
    simp only [List.length_cons]
    split
    · omega
    · split <;> omega

set_option maxHeartbeats 1000000 in
set_option maxRecDepth 100000 in
theorem remark_any (X : Nat) (s : List UInt8) (at_ line : Nat) (toks : List Tok) (v : Value) (w : World) (hs : s.length ≤ 65536) (h2 : at_ ≤ s.length) (hS : ScanAt X s at_ line toks v w) :
    Calls Tryz.prog 95 #[.pointer (some ⟨X, 0, none⟩)] w (Stepped X s w (remarkF s at_ line toks)) := by
  have c0 := cell_blk hS.blk 0
  have c1 := cell_blk hS.blk 1
  have f1 := frozen_blk hS.blk 1
  simp only [List.getElem?_toArray, List.getElem?_cons_zero, List.getElem?_cons_succ] at c0 c1
  have p1 : (0 : Int) ≤ (at_ : Int) := Int.natCast_nonneg _
  have p2 : (at_ : Int) ≤ (s.length : Int) := by omega
  have hx := extract_drop s at_
  have hn := indexByte_le (s.drop at_) 10
  have hg := Lib.indexByte_ge (s.drop at_) 10
  rw [List.length_drop] at hn
  have IX : Hid (∀ W, Calls Tryz.prog 160 #[.string ⟨(s.drop at_).toArray⟩, .int .u8 10] W fun e w' => e = .returned (.int .i64 (Lib.indexByte (s.drop at_) 10)) ∧ w' = W) :=
    Lib.hid (fun W => Tryz.strings_IndexByte ⟨(s.drop at_).toArray⟩ 10 W)
  by_cases h : Lib.indexByte (s.drop at_) 10 < 0
  · have HE : Hid (∀ w', (w' = w.drew ∨ w' = w.drew.drew ∨ w' = w) → Stepped X s w (remarkF s at_ line toks) (.returned .nilFunc) w') := Lib.hid (fun w' hw' => by
      unfold remarkF
      rw [if_pos h]
      rcases hw' with rfl | rfl | rfl
      · exact ⟨rfl, (Below.refl _ _).drew, v, hS.drew⟩
      · exact ⟨rfl, (Below.refl _ _).drew.drew, v, hS.drew.drew⟩
      · exact ⟨rfl, (Below.refl _ _), v, hS⟩)
    clear hn hg hS
    generalize Lib.indexByte (s.drop at_) 10 = n at h IX
    go_enter Tryz.func95, Tryz.ntmps95
    go_wp2_with fail
    go_region_held3 (fun w' => w'.cell? ⟨X, 0, none⟩ = some (.string ⟨s.toArray⟩) ∧ w'.cell? ⟨X, 1, none⟩ = some (.int .i64 at_)) (go_keep) ((refine (IX.out _).mono ?_; rintro e w' ⟨rfl, rfl⟩))
    go_wp2_with fail
    go_ret
    exact HE.out _ (by first | exact Or.inl rfl | exact Or.inr (Or.inl rfl) | exact Or.inr (Or.inr rfl))
  · have HE : Hid (∀ (i : Int) w', i = (at_ : Int) + Lib.indexByte (s.drop at_) 10 → (w' = (w.setCell ⟨X, 1, none⟩ (.int .i64 i)) ∨ w' = (w.drew.setCell ⟨X, 1, none⟩ (.int .i64 i)) ∨ w' = (w.drew.drew.setCell ⟨X, 1, none⟩ (.int .i64 i))) → Stepped X s w (remarkF s at_ line toks) (.returned (.func (.func 10) #[] #[])) w') := Lib.hid (fun i w' hi hw' => by
      unfold remarkF
      rw [if_neg h]
      have hi : i = ((at_ + (Lib.indexByte (s.drop at_) 10).toNat : Nat) : Int) := by omega
      subst hi
      rcases hw' with rfl | rfl | rfl
      · exact ⟨rfl, (Below.refl _ _).setCell (p := ⟨X, 1, none⟩) (Nat.le_refl _) _, v, hS.set1 _⟩
      · exact ⟨rfl, (Below.refl _ _).drew.setCell (p := ⟨X, 1, none⟩) (Nat.le_refl _) _, v, hS.drew.set1 _⟩
      · exact ⟨rfl, (Below.refl _ _).drew.drew.setCell (p := ⟨X, 1, none⟩) (Nat.le_refl _) _, v, hS.drew.drew.set1 _⟩)
    have hw : IntKind.i64.wrap ((at_ : Int) + Lib.indexByte (s.drop at_) 10) = (at_ : Int) + Lib.indexByte (s.drop at_) 10 := by rw [IntKind.wrap_i64]; omega
    clear hn hg hS
    generalize Lib.indexByte (s.drop at_) 10 = n at h IX HE hw
    go_enter Tryz.func95, Tryz.ntmps95
    go_wp2_with fail
    go_region_held3 (fun w' => w'.cell? ⟨X, 0, none⟩ = some (.string ⟨s.toArray⟩) ∧ w'.cell? ⟨X, 1, none⟩ = some (.int .i64 at_)) (go_keep) ((refine (IX.out _).mono ?_; rintro e w' ⟨rfl, rfl⟩))
    go_wp2_with fail
    go_ret
    exact HE.out _ _ rfl (by first | exact Or.inl rfl | exact Or.inr (Or.inl rfl) | exact Or.inr (Or.inr rfl))
end Go.Proofs.YthepjanojmemaaaGreatDoor
