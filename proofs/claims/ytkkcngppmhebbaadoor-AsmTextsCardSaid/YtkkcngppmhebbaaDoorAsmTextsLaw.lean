/-
  AsmTexts walked.
-/
import Derived.Test.YtkkcngppmhebbaaDoorCmdTwin
import Derived.Test.YtkkcngppmhebbaaDoorAsmBackLaw
import Derived.Test.YtkkcngppmhebbaaDoorRefText2
set_option linter.unusedVariables false
set_option linter.unusedSimpArgs false
namespace Go.Proofs.YtkkcngppmhebbaaDoor
open Go.RowKit

set_option maxHeartbeats 8000000 in
set_option maxRecDepth 100000 in
theorem asmTexts_walk (A : Option Addr) (c : Nat) (l : List Cmd) (w : World) (hn : l.length ≤ 35184372088832) (hwf : ∀ x ∈ l, x.Wf) (hl : CmdsAt w w.heap.size A l) (G : AGlobs w) :
    Calls Tryd.prog 3 #[.slice A l.length c] w fun e w' => e = .returned (.bool true) ∧ Below w.heap.size w w' := by
  have CA := Lib.hid (fun W GW => alive18_any W GW)
  have HG := Lib.hid G
  have HL := Lib.hid hl
  have HWf := Lib.hid hwf
  obtain ⟨w1, hw1⟩ : ∃ w1, w.alloc (.cells #[.int .i64 (l.length : Int)] 3 (0, 0)) = w1 := ⟨_, rfl⟩
  have hb1 : Below w.heap.size w w1 := by rw [← hw1]; exact (Below.refl _ _).alloc (Nat.le_refl _) _
  have hc1 : w1.heap[w.heap.size]? = some (.cells #[.int .i64 (l.length : Int)] 3 (0, 0)) := by rw [← hw1]; exact heap_alloc_new w _
  have CB := Lib.hid (beyond_any w.heap.size 0 1 (l.length : Int) (by omega) (by omega) w1 (cell_of hc1 0))
  have HB1 := Lib.hid hb1
  clear G hl hwf hb1 hc1
  by_cases hbig : (262144 : Int) < (l.length : Int)
  · rw [show decide ((262144 : Int) < (l.length : Int)) = true by simpa using hbig] at CB
    clear hbig
    go_enter Tryd.func3, Tryd.ntmps3
    go_wp2_with (go_at_call 6; refine CB.out.mono ?_; rintro e w2 ⟨rfl, rfl⟩)
    go_ret
    exact ⟨rfl, HB1.out⟩
  · rw [show decide ((262144 : Int) < (l.length : Int)) = false by simpa using hbig] at CB
    have HNb : Hid (l.length ≤ 262144) := Lib.hid (by omega)
    clear hbig hn
    have CT := Lib.hid (twinOps_any A c l w1.heap.size w1 (hc_keep HL.out HB1.out) (Nat.le_refl _) (by have := HNb.out; omega))
    obtain ⟨g, hg⟩ : ∃ g, w1.heap.size = g := ⟨_, rfl⟩
    have hgl : w.heap.size ≤ g := by rw [← hg]; exact HB1.out.size
    have HGl := Lib.hid hgl
    have HG1 := Lib.hid hg
    rw [hg] at CT
    obtain ⟨t, te, ht⟩ : ∃ t te, textA l = (t, te) := ⟨(textA l).1, (textA l).2, rfl⟩
    have CX := Lib.hid (fun A' c' W GW hc => atext_any A' c' l W GW hc HWf.out (by have := HNb.out; omega))
    have CR := Lib.hid (fun W hc => rtext18_any A c l W hc HWf.out (by have := HNb.out; omega))
    rw [ht] at CX CR
    clear ht hg hgl
    go_enter Tryd.func3, Tryd.ntmps3
    go_wp2_with (first | (go_at_call 6; refine CB.out.mono ?_; rintro e w2 ⟨rfl, rfl⟩) | (go_at_call 7; refine CT.out.mono ?_; rintro e w2 ⟨rfl, hown, hb2⟩))
    have HO := Lib.hid hown
    have HB2 : Hid (Below w.heap.size w w2) := Lib.hid (HB1.out.trans (hb2.mono HGl.out))
    have hgb : g < w2.heap.size := by
      rcases hown.2 with ⟨hv, h0⟩ | ⟨g', cap, cur, hv, -, hblk, -⟩
      · omega
      · injection hv with hv _ _
        injection hv with hv
        injection hv with hv _ _
        rw [hv]; exact (Array.getElem?_eq_some_iff.1 hblk).1
    have HGB := Lib.hid hgb
    have HTw : Hid (CmdsAt w2 w2.heap.size (some ⟨g, 0, none⟩) l) := Lib.hid fun _ => ⟨g, 0, rfl, HGB.out, fun k e he => by
      rw [Nat.zero_add]
      exact cmds_own HO.out k e (by rw [List.getElem?_append_left (List.getElem?_eq_some_iff.1 he).1]; exact he)⟩
    clear hown hb2 hgb CB CT hw1
    go_wp2_with (go_at_call 8; refine (CX.out _ _ _ (HG.out.below HB2.out) HTw.out).mono ?_; rintro e w3 ⟨rfl, hb3⟩)
    have HB3 := Lib.hid (HB2.out.trans (hb3.mono HB2.out.size))
    have HB23 := Lib.hid hb3
    clear hb3 CX
    refine (CR.out _ (hc_keep HL.out HB3.out)).mono ?_
    rintro e w4 ⟨rfl, hb4⟩
    have HB4 := Lib.hid (HB3.out.trans (hb4.mono HB3.out.size))
    have HB24 := Lib.hid (HB23.out.trans (hb4.mono HB23.out.size))
    have CL := Lib.hid (leftOps_any g A c l w4 (Nat.lt_of_lt_of_le HGB.out HB24.out.size) (fun k e he => (cmds_own HO.out k e he).keep (fun o' => HB24.out.cell (p := ⟨g, o', none⟩) HGB.out)) (hc_keep HL.out HB4.out) (by have := HNb.out; omega))
    clear hb4 CR
    have t1 : (te == te) = true := beq_self_eq_true te
    have t2 : (t == t) = true := beq_self_eq_true t
    go_wp2_with (first | (go_at_call 10; refine CL.out.mono ?_; rintro e w5 ⟨rfl, hb5⟩; have HB5 := Lib.hid (HB4.out.trans (hb5.mono HB4.out.size))) | (go_at_call 11; refine (CA.out _ (HG.out.below HB5.out)).mono ?_; rintro e w6 ⟨rfl, hb6⟩))
    go_ret
    exact ⟨rfl, HB5.out.trans (hb6.mono HB5.out.size)⟩
end Go.Proofs.YtkkcngppmhebbaaDoor
