/-
  AsmSpread walked.
-/
import Derived.Test.YtkkcngppmhebbaaDoorAsmSpread
import Derived.Test.YtkkcngppmhebbaaDoorAsmAlive
import Derived.Test.YtkkcngppmhebbaaDoorAsmLaw2
set_option linter.unusedVariables false
set_option linter.unusedSimpArgs false
namespace Go.Proofs.YtkkcngppmhebbaaDoor
open Go.RowKit

set_option maxHeartbeats 4000000 in
set_option maxRecDepth 100000 in
theorem asmSpread_walk (s : ByteArray) (hs : s.size ≤ 140737488355328) (w : World) (G : AGlobs w) :
    Calls Tryd.prog 5 #[.string s] w fun e w' => e = .returned (.bool true) ∧ Below w.heap.size w w' := by
  obtain ⟨L, rfl⟩ : ∃ L : List UInt8, s = ⟨L.toArray⟩ := ⟨s.data.toList, by simp⟩
  have hsz : (⟨L.toArray⟩ : ByteArray).size = L.length := by simp [ByteArray.size]
  rw [hsz] at hs
  have CA := Lib.hid (fun W GW => alive18_any W GW)
  have HG := Lib.hid G
  clear G
  by_cases hbig : 6000 < L.length
  · have t1 : (6000 : Int) < (L.length : Int) := by omega
    go_enter Tryd.func5, Tryd.ntmps5
    go_wp2_with (go_at_call 11; refine (CA.out _ HG.out).mono ?_; rintro e w1 ⟨rfl, hb1⟩)
    go_ret
    exact ⟨rfl, hb1⟩
  · have t1 : ¬ (6000 : Int) < (L.length : Int) := by omega
    have hl6 : L.length ≤ 6000 := by omega
    have hps := parse_spread hl6
    have hsl := spreadV_len hl6
    have CP := Lib.hid (fun W GW => aparse_any L hs W GW)
    have CS := Lib.hid (fun W => spread_any L hl6 W)
    have CQ := Lib.hid (fun W GW => aparse_any (spreadV L) (by omega) W GW)
    rw [hps] at CQ
    clear hps hsl hs hbig
    cases hp : parseA L with
    | inl l =>
      rw [hp] at CP CQ
      have hok := parse_ok hp
      have CM := Lib.hid (fun A B c d W h1 h2 => sameOps_eq A B c d l W h1 h2 (by have := hok.2; omega))
      clear hp hok
      go_enter Tryd.func5, Tryd.ntmps5
      go_wp2_with fail
      refine (CP.out _ HG.out).mono ?_
      rintro e w1 ⟨h1, hb1⟩
      obtain ⟨A1, c1, rfl, hc1⟩ := h1.ok rfl
      have HC1 := Lib.hid hc1
      have HB1 := Lib.hid hb1
      clear h1 hc1 hb1
      go_wp2_with (go_at_call 15; refine (CS.out _).mono ?_; rintro e w2 ⟨rfl, hb2⟩)
      have HB2 := Lib.hid (HB1.out.trans (hb2.mono HB1.out.size))
      have HC2 := Lib.hid (hc_keep HC1.out hb2)
      clear hb2
      refine (CQ.out _ (HG.out.below HB2.out)).mono ?_
      rintro e w3 ⟨h3, hb3⟩
      obtain ⟨A2, c2, rfl, hc2⟩ := h3.ok rfl
      have HB3 := Lib.hid (HB2.out.trans (hb3.mono HB2.out.size))
      have CM2 := Lib.hid (CM.out A1 A2 c1 c2 w3 (hc_keep HC2.out hb3) hc2)
      clear h3 hc2 hb3
      go_wp2_with (first | (go_at_call 13; refine CM2.out.mono ?_; rintro e w4 ⟨rfl, k, rfl⟩) | (go_at_call 11; refine (CA.out _ (HG.out.below (HB3.out.trans (below_drewN _ _ _)))).mono ?_; rintro e w5 ⟨rfl, hb5⟩))
      go_ret
      exact ⟨rfl, (HB3.out.trans (below_drewN _ _ _)).trans (hb5.mono (by exact HB3.out.size))⟩
    | inr p =>
      obtain ⟨n, er⟩ := p
      rw [hp] at CP CQ
      have CM := Lib.hid (fun W => sameOps_eq none none 0 0 [] W (fun h => absurd rfl h) (fun h => absurd rfl h) (by decide))
      have hn : Hid (n ≤ 70000 ∧ er ≠ 0) := Lib.hid (parse_bad hl6 hp)
      clear hp
      go_enter Tryd.func5, Tryd.ntmps5
      go_wp2_with fail
      refine (CP.out _ HG.out).mono ?_
      rintro e w1 ⟨h1, hb1⟩
      obtain rfl := h1.bad rfl
      have HB1 := Lib.hid hb1
      clear h1 hb1
      go_wp2_with (go_at_call 15; refine (CS.out _).mono ?_; rintro e w2 ⟨rfl, hb2⟩)
      have HB2 := Lib.hid (HB1.out.trans (hb2.mono HB1.out.size))
      clear hb2
      refine (CQ.out _ (HG.out.below HB2.out)).mono ?_
      rintro e w3 ⟨h3, hb3⟩
      obtain rfl := h3.bad rfl
      have HB3 := Lib.hid (HB2.out.trans (hb3.mono HB2.out.size))
      clear h3 hb3
      have hn7 := hn.out.1
      have her : (er == 0) = false := by simpa using hn.out.2
      go_wp2_with (first | (go_at_call 13; refine (CM.out _).mono ?_; rintro e w4 ⟨rfl, k, rfl⟩) | (go_at_call 11; refine (CA.out _ (HG.out.below (HB3.out.trans (below_drewN _ _ _)))).mono ?_; rintro e w5 ⟨rfl, hb5⟩))
      go_ret
      exact ⟨rfl, (HB3.out.trans (below_drewN _ _ _)).trans (hb5.mono (by exact HB3.out.size))⟩
end Go.Proofs.YtkkcngppmhebbaaDoor
