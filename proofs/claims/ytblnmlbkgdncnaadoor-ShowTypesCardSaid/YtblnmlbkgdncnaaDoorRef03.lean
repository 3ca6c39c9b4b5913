/-
  The document's form and text of a type.
-/
import Derived.Test.YtblnmlbkgdncnaaDoorShowJ
import Derived.Test.YtblnmlbkgdncnaaDoorRefNum
import Derived.Test.YtblnmlbkgdncnaaDoorLexRefWordsT
set_option linter.unusedVariables false
set_option linter.unusedSimpArgs false
namespace Go.Proofs.YtblnmlbkgdncnaaDoor
open Go.RowKit

theorem cat_b4 (a b c d : List UInt8) : (⟨a.toArray⟩ : ByteArray) ++ ⟨b.toArray⟩ ++ ⟨c.toArray⟩ ++ ⟨d.toArray⟩ = ⟨(((a ++ b) ++ c) ++ d).toArray⟩ := by
  rw [cat_b, cat_b, cat_b]
set_option maxHeartbeats 4000000 in
theorem rtform_any (ty : Ty) (hty : ty.Ok) (w : World) :
    Calls Tryd.prog 17 #[ty.val] w fun e w' => e = .returned (.int .i64 (tyForm ty)) ∧ Below w.heap.size w w' := by
  obtain ⟨k, nm, n⟩ := ty
  have CN := Lib.hid (fun W => rname_any nm hty.nm W)
  clear hty
  have HB : ∀ v, tyForm ⟨k, nm, n⟩ = v → Ending.returned (.int .i64 v) = .returned (.int .i64 (tyForm ⟨k, nm, n⟩)) := fun v h => by rw [h]
  have HE := Lib.hid HB
  clear HB
  have HBl := Lib.hid (fun o => (Below.refl w.heap.size w).alloc (Nat.le_refl _) o)
  cases hb : nameB nm with
  | true =>
    rw [hb] at CN
    have HN := Lib.hid hb
    clear hb
    go_enter Tryd.func17, Tryd.ntmps17
    go_wp2_with (go_at_call 33; refine (CN.out _).mono ?_; rintro e w1 ⟨rfl, rfl⟩)
    all_goals
      go_ret
      refine ⟨HE.out _ ?_, HBl.out _⟩
      have hn := HN.out
      have hnn : nm ≠ [] := fun h => by rw [h] at hn; cases hn
      unfold tyForm
      simp_all
      try omega
  | false =>
    rw [hb] at CN
    have HN := Lib.hid hb
    clear hb
    go_enter Tryd.func17, Tryd.ntmps17
    go_wp2_with (go_at_call 33; refine (CN.out _).mono ?_; rintro e w1 ⟨rfl, rfl⟩)
    all_goals
      go_ret
      refine ⟨HE.out _ ?_, HBl.out _⟩
      have hn := HN.out
      unfold tyForm
      simp_all
      try omega

set_option maxHeartbeats 4000000 in
theorem rttext_any (ty : Ty) (hty : ty.Ok) (w : World) :
    Calls Tryd.prog 18 #[ty.val] w fun e w' => e = .returned (.string ⟨(tyText ty).toArray⟩) ∧ Below w.heap.size w w' := by
  obtain ⟨k, nm, n⟩ := ty
  obtain ⟨hk, hnm, hn⟩ := hty
  dsimp only at hk hnm hn
  unfold lenOk at hnm
  have HBl := Lib.hid (fun o => (Below.refl w.heap.size w).alloc (Nat.le_refl _) o)
  have CT := Lib.hid (fun W => rtext_any n hn.1 hn.2 W)
  have hT : ∀ l, tyText ⟨k, nm, n⟩ = l → Ending.returned (.string ⟨l.toArray⟩) = .returned (.string ⟨(tyText ⟨k, nm, n⟩).toArray⟩) := fun l h => by rw [h]
  have HE := Lib.hid hT
  have hil : (Lib.itoa n).length ≤ 30 := by
    unfold Lib.itoa
    have h1 := hn.1
    have h2 := hn.2
    split
    · have := decDigits_len 19 n.natAbs (by omega)
      simp only [List.length_cons]; omega
    · have := decDigits_len 19 n.toNat (by omega)
      omega
  clear hT
  generalize hit : Lib.itoa n = it at *
  have HIt := Lib.hid hit
  clear hit hk hn
  have c1 : ¬ (9223372036854775807 < 1 + it.length) := by omega
  have c2 : ¬ (9223372036854775807 < 1 + it.length + 1) := by omega
  have c3 : ¬ (9223372036854775807 < 1 + it.length + 1 + nm.length) := by omega
  have c4 : ¬ (9223372036854775807 < 1 + it.length + 1 + 3) := by omega
  by_cases h3 : k = 3
  · subst h3
    by_cases hnm0 : nm = []
    · have HT : Hid (tyText ⟨3, nm, n⟩ = 91 :: it ++ [93] ++ [105, 110, 116]) := Lib.hid (by subst hnm0; simp [tyText, HIt.out])
      have hn2 : nm.isEmpty = true := by simpa using hnm0
      clear hnm0
      go_enter Tryd.func18, Tryd.ntmps18
      go_wp2_with (go_at_call 34; refine (CT.out _).mono ?_; rintro e w1 ⟨rfl, hb1⟩; have HB1 := Lib.hid ((HBl.out _).trans (hb1.mono (HBl.out _).size)); clear hb1)
      go_ret
      exact ⟨(congrArg (fun b => Ending.returned (.string b)) (cat_b4 [91] it [93] [105, 110, 116])).trans (HE.out _ HT.out), HB1.out⟩
    · have HT : Hid (tyText ⟨3, nm, n⟩ = 91 :: it ++ [93] ++ nm) := Lib.hid (by simp [tyText, HIt.out, hnm0])
      have hn2 : nm.isEmpty = false := by simpa using hnm0
      clear hnm0
      go_enter Tryd.func18, Tryd.ntmps18
      go_wp2_with (go_at_call 34; refine (CT.out _).mono ?_; rintro e w1 ⟨rfl, hb1⟩; have HB1 := Lib.hid ((HBl.out _).trans (hb1.mono (HBl.out _).size)); clear hb1)
      go_ret
      exact ⟨(congrArg (fun b => Ending.returned (.string b)) (cat_b4 [91] it [93] nm)).trans (HE.out _ HT.out), HB1.out⟩
  · have k3 : (k == 3) = false := by simpa using h3
    by_cases hnm0 : nm = []
    · have HT : Hid (tyText ⟨k, nm, n⟩ = [105, 110, 116]) := Lib.hid (by subst hnm0; simp [tyText, h3])
      have hn2 : nm.isEmpty = true := by simpa using hnm0
      clear hnm0 h3
      go_enter Tryd.func18, Tryd.ntmps18
      go_wp2_with fail
      go_ret
      exact ⟨HE.out _ HT.out, HBl.out _⟩
    · have HT : Hid (tyText ⟨k, nm, n⟩ = nm) := Lib.hid (by simp [tyText, h3, hnm0])
      have hn2 : nm.isEmpty = false := by simpa using hnm0
      clear hnm0 h3
      go_enter Tryd.func18, Tryd.ntmps18
      go_wp2_with fail
      go_ret
      exact ⟨HE.out _ HT.out, HBl.out _⟩

set_option maxHeartbeats 4000000 in
theorem rtype_any (ty : Ty) (hty : ty.Ok) (w : World) :
    Calls Tryd.prog 6 #[ty.val] w fun e w' => e = .returned (.tuple #[.string ⟨(showTy ty).1.toArray⟩, .int .i64 (showTy ty).2]) ∧ Below w.heap.size w w' := by
  have HBl := Lib.hid (fun o => (Below.refl w.heap.size w).alloc (Nat.le_refl _) o)
  have CF := Lib.hid (fun W => rtform_any ty hty W)
  have CT := Lib.hid (fun W => rttext_any ty hty W)
  by_cases her : tyForm ty = 0
  · have hs : showTy ty = (tyText ty, 0) := by unfold showTy; rw [if_neg (not_not_intro her)]
    rw [hs]
    rw [her] at CF
    generalize tyText ty = T at *
    obtain ⟨k, nm, n⟩ := ty
    clear hs her hty
    go_enter Tryd.func6, Tryd.ntmps6
    go_wp2_with (first | (go_at_call 17; refine (CF.out _).mono ?_; rintro e w1 ⟨rfl, hb1⟩; have HB1 := Lib.hid ((HBl.out _).trans (hb1.mono (HBl.out _).size)); have hX := (hb1.block _ (lt_of_blk (heap_alloc_new w _))).trans (heap_alloc_new w _); have q0 := cell_at hX 0; have q1 := cell_at hX 1; have q2 := cell_at hX 2; simp only [List.getElem?_toArray, List.getElem?_cons_zero, List.getElem?_cons_succ] at q0 q1 q2; clear hb1 hX) | (go_at_call 18; refine (CT.out _).mono ?_; rintro e w2 ⟨rfl, hb2⟩; have HB2 := Lib.hid (HB1.out.trans (hb2.mono HB1.out.size)); clear hb2))
    go_ret2
    exact ⟨rfl, HB2.out⟩
  · have hs : showTy ty = ([], tyForm ty) := by unfold showTy; rw [if_pos her]
    rw [hs]
    have hn2 : (tyForm ty == 0) = false := by simpa using her
    generalize tyForm ty = er at *
    obtain ⟨k, nm, n⟩ := ty
    clear hs her hty CT
    go_enter Tryd.func6, Tryd.ntmps6
    go_wp2_with (go_at_call 17; refine (CF.out _).mono ?_; rintro e w1 ⟨rfl, hb1⟩; have HB1 := Lib.hid ((HBl.out _).trans (hb1.mono (HBl.out _).size)); clear hb1)
    go_ret2
    exact ⟨rfl, HB1.out⟩
end Go.Proofs.YtblnmlbkgdncnaaDoor
