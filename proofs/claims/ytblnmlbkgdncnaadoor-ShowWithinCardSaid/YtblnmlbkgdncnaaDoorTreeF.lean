/-
  trees: a list of fields, walked.
-/
import Derived.Test.YtblnmlbkgdncnaaDoorTreeE
set_option linter.unusedVariables false
set_option linter.unusedSimpArgs false
namespace Go.Proofs.YtblnmlbkgdncnaaDoor
open Go.RowKit

/-- how a walk through fields ends -/
def FlEnds (R : Int) (e : Ending) : Prop := e = (if R = 0 then .returned (.tuple #[]) else faultE R)
theorem FlEnds.good : FlEnds 0 (.returned (.tuple #[])) := rfl
theorem FlEnds.bad {R : Int} (h : R ≠ 0) : FlEnds R (faultE R) := by unfold FlEnds; rw [if_neg h]

set_option maxHeartbeats 8000000 in
set_option maxRecDepth 100000 in
theorem wfields_any (B : Nat) (a : Option Addr) (d : Hd) (l : List Fl) (w : World) (hI : FlsIn w B d l) (G : GlB B w) :
    Calls Tryd.prog 65 #[.pointer a, .slice d.a l.length d.c] w fun e w' => FlEnds (chkFls 0 l) e ∧ Below w.heap.size w w' := by
  obtain ⟨R, hR⟩ : ∃ R, chkFls 0 l = R := ⟨_, rfl⟩
  rw [hR]
  have HR := Lib.hid hR
  have HI := Lib.hid hI
  have HG := Lib.hid G
  clear hR hI G
  go_enter Tryd.func65, Tryd.ntmps65
  go_wp2_with fail
  go_loopw [8] (fun ii wr => ∃ (j : Nat), ii = .int .i64 j ∧ j ≤ l.length ∧ Hid (Below w.heap.size w wr) ∧ Hid (chkFls j (l.drop j) = R)) (fun ii _ => l.length - (intOf ii).toNat)
  case atStart => exact ⟨0, rfl, Nat.zero_le _, Lib.hid (Below.refl _ _), Lib.hid (by rw [List.drop_zero]; exact HR.out)⟩
  case round =>
    obtain ⟨j, rfl, hj, hK, hC⟩ := hrel
    have p2 : (0 : Int) ≤ (j : Int) := Int.natCast_nonneg _
    have p3 : l.length ≤ 140737488355328 := HI.out.len
    by_cases hlt : j < l.length
    · obtain ⟨f, hf⟩ : ∃ f, l[j]? = some f := ⟨_, List.getElem?_eq_getElem hlt⟩
      have hdrop : l.drop j = f :: l.drop (j + 1) := by
        have := List.drop_eq_getElem_cons hlt
        rw [List.getElem?_eq_getElem hlt] at hf
        injection hf with hf
        rw [this, hf]
      have hIr := HI.out.keep (hK.out.mono HG.out.le) (Nat.le_refl B)
      obtain ⟨rb, ro, hda, hrb, hrow⟩ := hIr.row (by intro h0; rw [h0] at hlt; simp at hlt)
      have hfa := hrow j f hf
      have hfo := hIr.sub f (List.mem_of_getElem? hf)
      have hC1 := Lib.hid hC.out
      rw [hdrop, chkFls] at hC1
      obtain ⟨fnm, ft⟩ := f
      obtain ⟨z0, z1, z2, z3⟩ := hfa
      obtain ⟨hn, ht⟩ := hfo
      dsimp only at z0 z1 z2 z3 hn ht hC1
      obtain ⟨X6, hX6⟩ : ∃ X6, wr.heap.size = X6 := ⟨_, rfl⟩
      obtain ⟨w6, hw6⟩ : ∃ w6, wr.alloc (.cells #[.string ⟨fnm.toArray⟩, .int .u8 ft.k, .string ⟨ft.nm.toArray⟩, .int .i64 ft.n] 77 (0, 0)) = w6 := ⟨_, rfl⟩
      have hb6 : Below wr.heap.size wr w6 := by rw [← hw6]; exact (Below.refl _ _).alloc (Nat.le_refl _) _
      have x6 : w6.heap[X6]? = some (.cells #[.string ⟨fnm.toArray⟩, .int .u8 ft.k, .string ⟨ft.nm.toArray⟩, .int .i64 ft.n] 77 (0, 0)) := by rw [← hw6, ← hX6]; exact heap_alloc_new wr _
      have HK6 : Hid (Below w.heap.size w w6) := Lib.hid (hK.out.trans (hb6.mono hK.out.size))
      have q0 := cell_at x6 0
      have q1 := cell_at x6 1
      have q2 := cell_at x6 2
      have q3 := cell_at x6 3
      simp only [List.getElem?_toArray, List.getElem?_cons_zero, List.getElem?_cons_succ] at q0 q1 q2 q3
      have p1 : (j : Int) < (l.length : Int) := by omega
      have HG6 : Hid (LGlobs w6) := Lib.hid (HG.out.below (HK6.out.mono HG.out.le)).g
      have CN := Lib.hid (lname_any fnm hn w6 HG6.out)
      have CT := Lib.hid (wtyp_any a ft ht.nm w6 HG6.out)
      have HNm := Lib.hid (And.intro hX6 hw6)
      clear hb6 x6 hrow hIr hdrop hf hn ht hX6 hw6 HG6
      rw [hda]
      by_cases h16 : 16 ≤ j
      · have d16 : decide ((j : Int) < 16) = false := by simp; omega
        have HW : Hid (3 = R) := Lib.hid (by have h := hC1.out; rw [if_pos h16] at h; exact h)
        go_wp2_with fail
        simp only [HNm.out.1, HNm.out.2]
        go_at_call 59
        with_reducible refine (want_no _ _ _).mono ?_
        rintro e w9 ⟨rfl, rfl⟩
        exact ⟨rfl, by rw [← HW.out]; exact FlEnds.bad (by decide), HK6.out⟩
      have d16 : decide ((j : Int) < 16) = true := by simp; omega
      rw [if_neg h16] at hC1
      cases hb : nameB fnm with
      | false =>
        rw [hb] at CN
        have HW : Hid (1 = R) := Lib.hid (by have h := hC1.out; rw [if_pos hb] at h; exact h)
        clear hb
        go_wp2_with fail
        simp only [HNm.out.1, HNm.out.2]
        go_at_call 59
        with_reducible refine (want_yes _ _ _).mono ?_
        rintro e w9 ⟨rfl, rfl⟩
        go_wp2_with (go_at_call 31; with_reducible refine CN.out.mono ?_; rintro e w9 ⟨rfl, rfl⟩)
        go_at_call 59
        with_reducible refine (want_no _ _ _).mono ?_
        rintro e w9 ⟨rfl, rfl⟩
        exact ⟨rfl, by rw [← HW.out]; exact FlEnds.bad (by decide), HK6.out⟩
      | true =>
        rw [hb] at CN
        rw [if_neg (by rw [hb]; decide)] at hC1
        clear hb
        go_wp2_with fail
        simp only [HNm.out.1, HNm.out.2]
        go_at_call 59
        with_reducible refine (want_yes _ _ _).mono ?_
        rintro e w9 ⟨rfl, rfl⟩
        go_wp2_with (go_at_call 31; with_reducible refine CN.out.mono ?_; rintro e w9 ⟨rfl, rfl⟩)
        go_at_call 59
        with_reducible refine (want_yes _ _ _).mono ?_
        rintro e w9 ⟨rfl, rfl⟩
        go_wp2_with fail
        by_cases htf : tyForm ft = 0
        · rw [if_neg (not_not_intro htf)] at hC1
          rw [if_pos htf] at CT
          refine CT.out.mono ?_
          rintro e w7 ⟨rfl, hb7⟩
          have HK7 : Hid (Below w.heap.size w w7) := Lib.hid (HK6.out.trans (hb7.mono HK6.out.size))
          clear hb7 htf CT hK
          go_wp2_with fail
          go_roundw
          case rel => exact ⟨j + 1, by go_num, by omega, HK7, hC1⟩
          case measure => simp [intOf]; omega
        · have HW : Hid (tyForm ft = R) := Lib.hid (by have h := hC1.out; rw [if_pos htf] at h; exact h)
          rw [if_neg htf] at CT
          refine CT.out.mono ?_
          rintro e w7 ⟨rfl, hb7⟩
          obtain rfl := HW.out
          exact ⟨rfl, FlEnds.bad htf, HK6.out.trans (hb7.mono HK6.out.size)⟩
    · obtain rfl : j = l.length := by omega
      have HF : Hid (0 = R) := Lib.hid (by have h := hC.out; rw [List.drop_length, chkFls] at h; exact h)
      obtain rfl := HF.out
      go_wp2_with fail
      go_end0
      exact ⟨FlEnds.good, hK.out⟩
end Go.Proofs.YtblnmlbkgdncnaaDoor
