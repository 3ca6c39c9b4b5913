import Derived.Test.YtkklogikakcanaaGreatDoorScopeB
set_option linter.unusedVariables false
set_option linter.unusedSimpArgs false
open List renaming getElem?_toArray → sl7, getElem?_cons_zero → sl8, getElem?_cons_succ → sl9
namespace Go.Proofs.YtkklogikakcanaaGreatDoor
open Go Go.Maps Go.RowKit
abbrev Srt.val (s : Srt) : Value := .agg #[.int .u8 s.t.k, .string ⟨s.t.nm.toArray⟩, .int .i64 s.t.n, .bool s.null]
set_option maxHeartbeats 4000000 in
theorem sshared_any (B Kb Rb Fb Sb : Nat) (p : Pr) (nm : List UInt8) (w : World) (h : ScIs B Kb Rb Fb Sb p w) (hl : lenOk nm.length) :
  Calls Tryz.prog 119 #[.pointer (some ⟨Kb, 0, none⟩), .string ⟨nm.toArray⟩] w fun e w' => e = .returned (.bool (shOf p nm).isSome) ∧ Below w.heap.size w w' := by
 have hlk := tyMap_look h.shs hl
 have k6 := cell_at h.k 6
 simp only [sl7, sl8, sl9] at k6
 have HBl := Lib.hid (fun o => (Below.refl w.heap.size w).alloc (Nat.le_refl _) o)
 generalize (shOf p nm).getD ty0 = u at *
 generalize (shOf p nm).isSome = b at *
 clear h
 go_enter Tryz.func119, Tryz.ntmps119
 go_wp2_with fail
 go_ret
 exact ⟨rfl, HBl.out _⟩
set_option maxHeartbeats 4000000 in
theorem sref_any (s : Srt) (w : World) :
  Calls Tryz.prog 172 #[s.val] w fun e w' => e = .returned (.bool s.ref) ∧ Below w.heap.size w w' := by
 obtain ⟨⟨k, nm, n⟩, nl⟩ := s
 have HBl := Lib.hid (fun o => (Below.refl w.heap.size w).alloc (Nat.le_refl _) o)
 have hR : ∀ b, Srt.ref ⟨⟨k, nm, n⟩, nl⟩ = b → Ending.returned (.bool b) = .returned (.bool (Srt.ref ⟨⟨k, nm, n⟩, nl⟩)) := fun b h => by rw [h]
 have HR := Lib.hid hR
 clear hR
 cases nl with
 | true =>
  go_enter Tryz.func172, Tryz.ntmps172
  go_wp2_with fail
  go_ret
  exact ⟨HR.out _ (by simp [Srt.ref]), HBl.out _⟩
 | false =>
  by_cases h2 : k = 2
  ·have d2 : (k == 2) = true := by simpa using h2
   have HZ := HR.out true (by simp [Srt.ref, refT, h2])
   have HZ2 := Lib.hid HZ
   clear h2 HZ
   go_enter Tryz.func172, Tryz.ntmps172
   go_wp2_with fail
   go_ret
   exact ⟨HZ2.out, HBl.out _⟩
  ·have d2 : (k == 2) = false := by simpa using h2
   have HZ2 := Lib.hid (HR.out (k == 3) (by simp [Srt.ref, refT, h2]; rfl))
   clear h2
   go_enter Tryz.func172, Tryz.ntmps172
   go_wp2_with fail
   go_ret
   exact ⟨HZ2.out, HBl.out _⟩
theorem three_first (w : World) (o1 o2 o3 : Obj) : (((w.alloc o1).alloc o2).alloc o3).heap[w.heap.size]? = some o1 := by
 have h1 := (Below.refl (w.alloc o1).heap.size (w.alloc o1)).alloc (Nat.le_refl _) o2
 have h2 := (Below.refl ((w.alloc o1).alloc o2).heap.size ((w.alloc o1).alloc o2)).alloc (Nat.le_refl _) o3
 exact (h2.block _ (by rw [World.size_alloc, World.size_alloc]; omega)).trans ((h1.block _ (by rw [World.size_alloc]; omega)).trans (heap_alloc_new w o1))
set_option maxHeartbeats 4000000 in
set_option maxRecDepth 100000 in
theorem sfits_any (s : Srt) (t : Ty) (w : World) :
  Calls Tryz.prog 155 #[s.val, t.val] w fun e w' => e = .returned (.bool (s.fits t)) ∧ Below w.heap.size w w' := by
 obtain ⟨⟨k, nm, n⟩, nl⟩ := s
 obtain ⟨tk, tnm, tn⟩ := t
 obtain ⟨R, hR⟩ : ∃ R, Srt.fits ⟨⟨k, nm, n⟩, nl⟩ ⟨tk, tnm, tn⟩ = R := ⟨_, rfl⟩
 rw [hR]
 have HR := Lib.hid hR
 have HB : Hid (∀ o1 o2 o3, Below w.heap.size w (((w.alloc o1).alloc o2).alloc o3)) := Lib.hid fun o1 o2 o3 =>
  (((Below.refl w.heap.size w).alloc (Nat.le_refl _) o1).alloc (by rw [World.size_alloc]; omega) o2).alloc (by rw [World.size_alloc, World.size_alloc]; omega) o3
 clear hR
 cases nl with
 | true =>
  have CR := Lib.hid (fun W => sref_any ⟨⟨tk, tnm, tn⟩, false⟩ W)
  have hz : R = Srt.ref ⟨⟨tk, tnm, tn⟩, false⟩ := by rw [← HR.out]; simp [Srt.fits, Srt.ref]
  rw [← hz] at CR
  clear hz HR
  go_enter Tryz.func155, Tryz.ntmps155
  go_wp2_with fail
  refine (CR.out _).mono ?_
  rintro e w2 ⟨rfl, hb2⟩
  have HB2 := Lib.hid ((HB.out _ _ _).trans (hb2.mono (HB.out _ _ _).size))
  have q3 := cell_at ((hb2.block w.heap.size (by rw [World.size_alloc, World.size_alloc, World.size_alloc]; omega)).trans (three_first w _ _ _)) 3
  simp only [sl7, sl8, sl9] at q3
  clear hb2
  cases R with
  | true =>
   go_wp2_with fail
   go_ret
   exact ⟨rfl, HB2.out⟩
  | false =>
   go_wp2_with fail
   go_ret
   exact ⟨rfl, HB2.out⟩
 | false =>
  go_enter Tryz.func155, Tryz.ntmps155
  go_wp2_with fail
  all_goals
   go_ret
   refine ⟨ret_bool ?_, HB.out _ _ _⟩
   rw [← HR.out]
   clear HR
   simp_all [Srt.fits]
   try rfl
end Go.Proofs.YtkklogikakcanaaGreatDoor
