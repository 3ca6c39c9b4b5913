/-
  lex.name walked.
-/
import Derived.Test.YthepjanojmemaaaGreatDoorLexRemark
import Derived.Deep.QuietTactic
import Derived.BigQuiet
set_option linter.unusedVariables false
set_option linter.unusedSimpArgs false
namespace Go.Proofs.YthepjanojmemaaaGreatDoor
open Go.RowKit

/-- the place where the scanner stands -/
def atOf (X : Nat) (w : World) : Nat := match w.cell? ⟨X, 1, none⟩ with
  | some (.int _ i) => i.toNat
  | _ => 0
theorem atOf_scan {X : Nat} {s : List UInt8} {at_ line : Nat} {toks : List Tok} {v : Value} {w : World} (h : ScanAt X s at_ line toks v w) : atOf X w = at_ := by
  unfold atOf
  rw [cell_blk h.blk 1]
  simp

theorem ScanAt.drewN {X : Nat} {s : List UInt8} {at_ line : Nat} {toks : List Tok} {v : Value} {w : World} (h : ScanAt X s at_ line toks v w) (k : Nat) : ScanAt X s at_ line toks v (w.drewN k) := ⟨h.blk, h.own⟩
theorem own_below {w w' : World} {B e size n : Nat} {v : Value} {xs : List Value} (h : w.ownsRow B e size v n xs) (hb : Below w.heap.size w w') : w'.ownsRow B e size v n xs := by
  refine ⟨h.1, ?_⟩
  rcases h.2 with hn | ⟨g, cap, cur, rfl, hg, hgg, rest⟩
  · exact .inl hn
  · exact .inr ⟨g, cap, cur, rfl, hg, by rw [hb.block g (Array.getElem?_eq_some_iff.1 hgg).1]; exact hgg, rest⟩
theorem ScanAt.below {X : Nat} {s : List UInt8} {at_ line : Nat} {toks : List Tok} {v : Value} {w w' : World} (h : ScanAt X s at_ line toks v w) (hb : Below w.heap.size w w') : ScanAt X s at_ line toks v w' :=
  ⟨(hb.block X (Array.getElem?_eq_some_iff.1 h.blk).1).trans h.blk, own_below h.own hb⟩
theorem ScanAt.lt {X : Nat} {s : List UInt8} {at_ line : Nat} {toks : List Tok} {v : Value} {w : World} (h : ScanAt X s at_ line toks v w) : X < w.heap.size := (Array.getElem?_eq_some_iff.1 h.blk).1

theorem name_ways (s : List UInt8) (at_ line : Nat) (toks : List Tok) (b : Nat) (t : List UInt8) (hb : spanTo partB s at_ = b) (ht : (s.drop at_).take (b - at_) = t) :
    (wordB t = true ∧ nameF s at_ line toks = ⟨.blank, b, line, toks ++ [⟨2, t, 0, line⟩]⟩) ∨
    (wordB t = false ∧ nameB t = true ∧ nameF s at_ line toks = ⟨.blank, b, line, toks ++ [⟨1, t, 0, line⟩]⟩) ∨
    (wordB t = false ∧ nameB t = false ∧ nameF s at_ line toks = ⟨.stop, at_, line, toks⟩) := by
  have hF : nameF s at_ line toks = if wordB t then ⟨.blank, b, line, toks ++ [⟨2, t, 0, line⟩]⟩ else if nameB t then ⟨.blank, b, line, toks ++ [⟨1, t, 0, line⟩]⟩ else ⟨.stop, at_, line, toks⟩ := by
    subst ht hb; rfl
  cases hw : wordB t
  · cases hn : nameB t
    · exact Or.inr (Or.inr ⟨rfl, rfl, by rw [hF, hw, hn]; rfl⟩)
    · exact Or.inr (Or.inl ⟨rfl, rfl, by rw [hF, hw, hn]; rfl⟩)
  · exact Or.inl ⟨rfl, by rw [hF, hw]; rfl⟩

set_option maxHeartbeats 6400000 in
set_option maxRecDepth 100000 in
theorem name_any (X : Nat) (s : List UInt8) (at_ line : Nat) (toks : List Tok) (v : Value) (w : World) (hs : s.length ≤ 65536) (hn0 : toks.length ≤ at_) (h2 : at_ < s.length) (hS : ScanAt X s at_ line toks v w)
    (hG : ∀ W, Below X w W → LGlobs W) :
    Calls Tryz.prog 96 #[.pointer (some ⟨X, 0, none⟩)] w (Stepped X s w (nameF s at_ line toks)) := by
  have c0 := cell_blk hS.blk 0
  have c1 := cell_blk hS.blk 1
  simp only [List.getElem?_toArray, List.getElem?_cons_zero, List.getElem?_cons_succ] at c0 c1
  have hB := spanTo_le (p := partB) (Nat.le_of_lt h2)
  obtain ⟨b, hbe⟩ : ∃ b, spanTo partB s at_ = b := ⟨_, rfl⟩
  obtain ⟨t, ht⟩ : ∃ t, (s.drop at_).take (b - at_) = t := ⟨_, rfl⟩
  have hways := name_ways s at_ line toks b t hbe ht
  rw [hbe] at hB
  have htl : t.length ≤ 140737488355328 := by
    rw [← ht, List.length_take, List.length_drop]; omega
  have hx0 := extract_list s at_ b
  rw [ht] at hx0
  have HX := Lib.hid hx0
  have CW : Hid (∀ W, Below X w W → Calls Tryz.prog 93 #[.string ⟨t.toArray⟩] W fun e w' => e = .returned (.bool (wordB t)) ∧ W = w') := Lib.hid fun W h => lword_any t htl W (hG W h)
  have CN : Hid (∀ W, Below X w W → Calls Tryz.prog 94 #[.string ⟨t.toArray⟩] W fun e w' => e = .returned (.bool (nameB t)) ∧ W = w') := Lib.hid fun W h => lname_any t htl W (hG W h)
  have CP : Hid (∀ (k : Int) W, ScanAt X s b line toks v W → Below X w W → Calls Tryz.prog 161 #[.pointer (some ⟨X, 0, none⟩), .int .u8 k, .int .i64 at_, .int .i64 0] W fun e w' =>
      e = .returned (.tuple #[]) ∧ Below X w w' ∧ ∃ v', ScanAt X s b line (toks ++ [⟨k, t, 0, line⟩]) v' w') := Lib.hid fun k W hW hbW => by
    refine (put_any X s b line at_ k 0 toks v W hs (by omega) hB.1 hB.2 hW).mono ?_
    rintro e w' ⟨rfl, hb, v', hv⟩
    rw [ht] at hv
    exact ⟨rfl, hbW.trans hb, v', hv⟩
  have HS := Lib.hid hS
  have HB0 := Lib.hid hbe
  clear ht hx0 hS hG hbe htl
  generalize nameF s at_ line toks = r at *
  have HW := Lib.hid hways
  clear hways
  go_enter Tryz.func96, Tryz.ntmps96
  go_wp2_with fail
  clear c0 c1
  go_loopw [] (fun wr => ∃ a : Nat, at_ ≤ a ∧ a ≤ s.length ∧ Hid (ScanAt X s a line toks v wr) ∧ Hid (Below X w wr) ∧ Hid (spanTo partB s a = b)) (fun wr => s.length - atOf X wr)
  case atStart => exact ⟨at_, Nat.le_refl _, Nat.le_of_lt h2, HS, Below.refl _ _, HB0⟩
  case round =>
    obtain ⟨a, ha, hl, hSa, hBa, hE⟩ := hrel
    have c0 := cell_blk hSa.out.blk 0
    have c1 := cell_blk hSa.out.blk 1
    have f1 := frozen_blk hSa.out.blk 1
    simp only [List.getElem?_toArray, List.getElem?_cons_zero, List.getElem?_cons_succ] at c0 c1
    have hw1 : IntKind.i64.wrap ((a : Int) + 1) = a + 1 := by rw [IntKind.wrap_i64]; omega
    have p1 : (0 : Int) ≤ (at_ : Int) := Int.natCast_nonneg _
    have p2 : (at_ : Int) ≤ (a : Int) := by omega
    have p3 : (a : Int) ≤ (s.length : Int) := by omega
    by_cases hlt : a < s.length
    · have hget : ∀ h, ((⟨s.toArray⟩ : ByteArray)[a]'h) = s[a] := fun h => rfl
      have p4 : (a : Int) < (s.length : Int) := by omega
      cases hp : partB s[a]
      · have PC : Hid (∀ W, Calls Tryz.prog 159 #[.int .u8 s[a].toNat] W fun e w' => e = .returned (.bool false) ∧ w' = W) := Lib.hid fun W => (part_any s[a] W).mono fun e w' h => ⟨by rw [h.1, hp], h.2.symm⟩
        obtain rfl : a = b := (spanTo_stop hlt hp).symm.trans hE.out
        have hx := HX.out
        clear hE hp
        go_wp2_with fail
        go_quiet ((go_at_call 159; exact Calls.quiet_of_same (PC.out _)))
        go_wp2_with fail
        go_quiet (fail)
        go_wp2_with fail
        clear c0 c1 f1
        rcases HW.out with ⟨hw, hr⟩ | ⟨hw, hnm, hr⟩ | ⟨hw, hnm, hr⟩
        · have HWB := Lib.hid hw
          have HR := Lib.hid hr
          clear hw hr HW
          refine (CW.out _ (hBa.out.trans (below_drewN X wr _))).mono ?_
          rintro e w' ⟨rfl, rfl⟩
          rw [HWB.out]
          go_wp2_with fail
          refine (CP.out 2 _ (hSa.out.drewN _) (hBa.out.trans (below_drewN X wr _))).mono ?_
          rintro e w3 ⟨rfl, hb3, hv3⟩
          have K3 := Lib.hid (And.intro hb3 hv3)
          clear hb3 hv3
          go_wp2_with fail
          go_ret
          rw [HR.out]
          exact ⟨rfl, K3.out⟩
        · have HWB := Lib.hid hw
          have HNB := Lib.hid hnm
          have HR := Lib.hid hr
          clear hw hr hnm HW
          refine (CW.out _ (hBa.out.trans (below_drewN X wr _))).mono ?_
          rintro e w' ⟨rfl, rfl⟩
          rw [HWB.out]
          go_wp2_with fail
          refine (CN.out _ (hBa.out.trans (below_drewN X wr _))).mono ?_
          rintro e w' ⟨rfl, rfl⟩
          rw [HNB.out]
          go_wp2_with fail
          refine (CP.out 1 _ (hSa.out.drewN _) (hBa.out.trans (below_drewN X wr _))).mono ?_
          rintro e w3 ⟨rfl, hb3, hv3⟩
          have K3 := Lib.hid (And.intro hb3 hv3)
          clear hb3 hv3
          go_wp2_with fail
          go_ret
          rw [HR.out]
          exact ⟨rfl, K3.out⟩
        · have HWB := Lib.hid hw
          have HNB := Lib.hid hnm
          have HR := Lib.hid hr
          clear hw hr hnm HW
          refine (CW.out _ (hBa.out.trans (below_drewN X wr _))).mono ?_
          rintro e w' ⟨rfl, rfl⟩
          rw [HWB.out]
          go_wp2_with fail
          refine (CN.out _ (hBa.out.trans (below_drewN X wr _))).mono ?_
          rintro e w' ⟨rfl, rfl⟩
          rw [HNB.out]
          have g1 := frozen_blk hSa.out.blk 1
          have g2 := cell_blk hSa.out.blk 1
          simp only [List.getElem?_toArray, List.getElem?_cons_zero, List.getElem?_cons_succ] at g2
          go_wp2_with fail
          go_ret
          rw [HR.out]
          exact ⟨rfl, (hBa.out.trans (below_drewN X wr _)).setCell (p := ⟨X, 1, none⟩) (Nat.le_refl _) _, v, (hSa.out.drewN _).set1 at_⟩
      · have PC : Hid (∀ W, Calls Tryz.prog 159 #[.int .u8 s[a].toNat] W fun e w' => e = .returned (.bool true) ∧ w' = W) := Lib.hid fun W => (part_any s[a] W).mono fun e w' h => ⟨by rw [h.1, hp], h.2.symm⟩
        have HI : Hid (∀ i : Int, i = (a : Int) + 1 → ∀ nq, (∃ a_1, at_ ≤ a_1 ∧ a_1 ≤ s.length ∧ Hid (ScanAt X s a_1 line toks v ((wr.drewN nq).setCell ⟨X, 1, none⟩ (.int .i64 i))) ∧ Hid (Below X w ((wr.drewN nq).setCell ⟨X, 1, none⟩ (.int .i64 i))) ∧ Hid (spanTo partB s a_1 = b)) ∧
            s.length - atOf X ((wr.drewN nq).setCell ⟨X, 1, none⟩ (.int .i64 i)) < s.length - atOf X wr) := Lib.hid fun i hi nq => by
          have hi : i = ((a + 1 : Nat) : Int) := by omega
          subst hi
          refine ⟨⟨a + 1, by omega, hlt, (hSa.out.drewN nq).set1 (a + 1), (hBa.out.trans (below_drewN X wr nq)).setCell (p := ⟨X, 1, none⟩) (Nat.le_refl _) _, (spanTo_step hlt hp).symm.trans hE.out⟩, ?_⟩
          rw [atOf_scan ((hSa.out.drewN nq).set1 (a + 1)), atOf_scan hSa.out]
          omega
        clear hp
        go_wp2_with fail
        go_quiet ((go_at_call 159; exact Calls.quiet_of_same (PC.out _)))
        go_wp2_with fail
        exact HI.out _ rfl _
    · have p4 : ¬ ((a : Int) < (s.length : Int)) := by omega
      have p5 : decide ((a : Int) < (s.length : Int)) = false := by simpa using p4
      obtain rfl : a = b := (spanTo_end (by omega)).symm.trans hE.out
      have hx := HX.out
      clear hE p4
      go_wp2_with fail
      go_quiet (fail)
      go_wp2_with fail
      go_quiet (fail)
      go_wp2_with fail
      clear c0 c1 f1
      rcases HW.out with ⟨hw, hr⟩ | ⟨hw, hnm, hr⟩ | ⟨hw, hnm, hr⟩
      · have HWB := Lib.hid hw
        have HR := Lib.hid hr
        clear hw hr HW
        refine (CW.out _ (hBa.out.trans (below_drewN X wr _))).mono ?_
        rintro e w' ⟨rfl, rfl⟩
        rw [HWB.out]
        go_wp2_with fail
        refine (CP.out 2 _ (hSa.out.drewN _) (hBa.out.trans (below_drewN X wr _))).mono ?_
        rintro e w3 ⟨rfl, hb3, hv3⟩
        have K3 := Lib.hid (And.intro hb3 hv3)
        clear hb3 hv3
        go_wp2_with fail
        go_ret
        rw [HR.out]
        exact ⟨rfl, K3.out⟩
      · have HWB := Lib.hid hw
        have HNB := Lib.hid hnm
        have HR := Lib.hid hr
        clear hw hr hnm HW
        refine (CW.out _ (hBa.out.trans (below_drewN X wr _))).mono ?_
        rintro e w' ⟨rfl, rfl⟩
        rw [HWB.out]
        go_wp2_with fail
        refine (CN.out _ (hBa.out.trans (below_drewN X wr _))).mono ?_
        rintro e w' ⟨rfl, rfl⟩
        rw [HNB.out]
        go_wp2_with fail
        refine (CP.out 1 _ (hSa.out.drewN _) (hBa.out.trans (below_drewN X wr _))).mono ?_
        rintro e w3 ⟨rfl, hb3, hv3⟩
        have K3 := Lib.hid (And.intro hb3 hv3)
        clear hb3 hv3
        go_wp2_with fail
        go_ret
        rw [HR.out]
        exact ⟨rfl, K3.out⟩
      · have HWB := Lib.hid hw
        have HNB := Lib.hid hnm
        have HR := Lib.hid hr
        clear hw hr hnm HW
        refine (CW.out _ (hBa.out.trans (below_drewN X wr _))).mono ?_
        rintro e w' ⟨rfl, rfl⟩
        rw [HWB.out]
        go_wp2_with fail
        refine (CN.out _ (hBa.out.trans (below_drewN X wr _))).mono ?_
        rintro e w' ⟨rfl, rfl⟩
        rw [HNB.out]
        have g1 := frozen_blk hSa.out.blk 1
        have g2 := cell_blk hSa.out.blk 1
        simp only [List.getElem?_toArray, List.getElem?_cons_zero, List.getElem?_cons_succ] at g2
        go_wp2_with fail
        go_ret
        rw [HR.out]
        exact ⟨rfl, (hBa.out.trans (below_drewN X wr _)).setCell (p := ⟨X, 1, none⟩) (Nat.le_refl _) _, v, (hSa.out.drewN _).set1 at_⟩
end Go.Proofs.YthepjanojmemaaaGreatDoor
