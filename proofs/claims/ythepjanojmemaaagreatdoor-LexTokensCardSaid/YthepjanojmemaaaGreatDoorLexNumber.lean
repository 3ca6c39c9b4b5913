/-
  lex.number walked.
-/
import Derived.Test.YthepjanojmemaaaGreatDoorLexName
import Derived.Deep.QuietTactic
import Derived.BigQuiet
set_option linter.unusedVariables false
set_option linter.unusedSimpArgs false
namespace Go.Proofs.YthepjanojmemaaaGreatDoor
open Go.RowKit

/-- the four ways that a number goes -/
theorem number_ways (s : List UInt8) (at_ line : Nat) (toks : List Tok) (b : Nat) (t : List UInt8) (hb : spanTo digB s at_ = b) (ht : (s.drop at_).take (b - at_) = t) :
    (∃ u, u ≤ 9223372036854775808 ∧ Lib.parseUintB 64 t = .ok u ∧ Lib.decDigits u = t ∧ numberF s at_ line toks = ⟨.blank, b, line, toks ++ [⟨3, t, w63 u, line⟩]⟩) ∨
    (numberF s at_ line toks = ⟨.stop, at_, line, toks⟩ ∧ ((∀ u, Lib.parseUintB 64 t ≠ .ok u) ∨
      (∃ u, u < 18446744073709551616 ∧ Lib.parseUintB 64 t = .ok u ∧ 9223372036854775808 < u) ∨
      (∃ u, u ≤ 9223372036854775808 ∧ Lib.parseUintB 64 t = .ok u ∧ Lib.decDigits u ≠ t))) := by
  have hF : numberF s at_ line toks = if (digitsV t 9223372036854775808).2 = true then ⟨.blank, b, line, toks ++ [⟨3, t, w63 (digitsV t 9223372036854775808).1, line⟩]⟩ else ⟨.stop, at_, line, toks⟩ := by
    subst ht hb; rfl
  by_cases hv : (digitsV t 9223372036854775808).2 = true
  · left
    have h := digitsV_ok (l := t) (most := 9223372036854775808) (n := (digitsV t 9223372036854775808).1) (by decide) (by rw [← hv])
    refine ⟨_, h.2, ?_, h.1.symm, by rw [hF, if_pos hv]⟩
    have h2 := parseUintB_dec (digitsV t 9223372036854775808).1 (by omega)
    rw [← h.1] at h2
    exact h2
  · right
    refine ⟨by rw [hF, if_neg hv], ?_⟩
    by_cases hp : ∀ u, Lib.parseUintB 64 t ≠ .ok u
    · exact Or.inl hp
    · right
      have hp : ∃ u, Lib.parseUintB 64 t = .ok u := Classical.byContradiction fun h => hp fun u hu => h ⟨u, hu⟩
      obtain ⟨u, hu⟩ := hp
      have hlt : u ≤ 18446744073709551615 := by
        have h3 := hu
        unfold Lib.parseUintB at h3
        cases t with
        | nil => cases h3
        | cons c r =>
          rw [if_neg (by simp)] at h3
          exact (parseUintM_ok _ (by decide) _ _ _ h3 (by decide)).2.2
      by_cases h63 : u ≤ 9223372036854775808
      · refine Or.inr ⟨u, h63, hu, fun hd => hv ?_⟩
        rw [← hd, digitsV_dec u _ h63 (by decide) (by decide)]
      · exact Or.inl ⟨u, by omega, hu, by omega⟩

set_option maxHeartbeats 6400000 in
set_option maxRecDepth 100000 in
theorem number_any (X : Nat) (s : List UInt8) (at_ line : Nat) (toks : List Tok) (v : Value) (w : World) (hs : s.length ≤ 65536) (hn0 : toks.length ≤ at_) (h2 : at_ < s.length) (hS : ScanAt X s at_ line toks v w)
    (hG : ∀ W, Below X w W → Globs W) :
    Calls Tryz.prog 97 #[.pointer (some ⟨X, 0, none⟩)] w (Stepped X s w (numberF s at_ line toks)) := by
  have c0 := cell_blk hS.blk 0
  have c1 := cell_blk hS.blk 1
  simp only [List.getElem?_toArray, List.getElem?_cons_zero, List.getElem?_cons_succ] at c0 c1
  have hB := spanTo_le (p := digB) (Nat.le_of_lt h2)
  obtain ⟨b, hbe⟩ : ∃ b, spanTo digB s at_ = b := ⟨_, rfl⟩
  obtain ⟨t, ht⟩ : ∃ t, (s.drop at_).take (b - at_) = t := ⟨_, rfl⟩
  have hways := number_ways s at_ line toks b t hbe ht
  rw [hbe] at hB
  have htl : t.length ≤ 65536 := by
    rw [← ht, List.length_take, List.length_drop]; omega
  have hx0 := extract_list s at_ b
  rw [ht] at hx0
  have HX := Lib.hid hx0
  have CP : Hid (∀ (n : Int) W, ScanAt X s b line toks v W → Below X w W → Calls Tryz.prog 161 #[.pointer (some ⟨X, 0, none⟩), .int .u8 3, .int .i64 at_, .int .i64 n] W fun e w' =>
      e = .returned (.tuple #[]) ∧ Below X w w' ∧ ∃ v', ScanAt X s b line (toks ++ [⟨3, t, n, line⟩]) v' w') := Lib.hid fun n W hW hbW => by
    refine (put_any X s b line at_ 3 n toks v W hs (by omega) hB.1 hB.2 hW).mono ?_
    rintro e w' ⟨rfl, hb, v', hv⟩
    rw [ht] at hv
    exact ⟨rfl, hbW.trans hb, v', hv⟩
  have HS := Lib.hid hS
  have HB0 := Lib.hid hbe
  have HG := Lib.hid hG
  clear ht hx0 hS hG hbe
  generalize numberF s at_ line toks = r at *
  have HW := Lib.hid hways
  clear hways
  go_enter Tryz.func97, Tryz.ntmps97
  go_wp2_with fail
  clear c0 c1
  go_loopw [] (fun wr => ∃ a : Nat, at_ ≤ a ∧ a ≤ s.length ∧ Hid (ScanAt X s a line toks v wr) ∧ Hid (Below X w wr) ∧ Hid (spanTo digB s a = b)) (fun wr => s.length - atOf X wr)
  case atStart => exact ⟨at_, Nat.le_refl _, Nat.le_of_lt h2, HS, Below.refl _ _, HB0⟩
  case round =>
    obtain ⟨a, ha, hl, hSa, hBa, hE⟩ := hrel
    have c0 := cell_blk hSa.out.blk 0
    have c1 := cell_blk hSa.out.blk 1
    have f1 := frozen_blk hSa.out.blk 1
    simp only [List.getElem?_toArray, List.getElem?_cons_zero, List.getElem?_cons_succ] at c0 c1
    have hw1 : IntKind.i64.wrap ((a : Int) + 1) = a + 1 := by rw [IntKind.wrap_i64]; omega
    have p1 : (0 : Int) ≤ (at_ : Int) := Int.natCast_nonneg _
    have p2 : (at_ : Int) ≤ (a : Int) := by omega
    have p3 : (a : Int) ≤ (s.length : Int) := by omega
    by_cases hlt : a < s.length
    · have hget : ∀ h, ((⟨s.toArray⟩ : ByteArray)[a]'h) = s[a] := fun h => rfl
      have p4 : (a : Int) < (s.length : Int) := by omega
      have K : Hid (∀ k w', Below (wr.drewN k).heap.size (wr.drewN k) w' → ScanAt X s a line toks v w' ∧ Below X w w') := Lib.hid fun k w' hb =>
        ⟨(hSa.out.drewN k).below hb, (hBa.out.trans (below_drewN X wr k)).trans (hb.mono (Nat.le_of_lt (hSa.out.drewN k).lt))⟩
      by_cases hd : 48 ≤ s[a].toNat ∧ s[a].toNat ≤ 57
      · have hdg : digB s[a] = true := by simp [digB, hd.1, hd.2]
        have d1 : decide ((48 : Int) ≤ (s[a].toNat : Int)) = true := by simp; omega
        have d2 : decide ((s[a].toNat : Int) ≤ 57) = true := by simp; omega
        have HI : Hid (∀ i : Int, i = (a : Int) + 1 → ∀ nq, (∃ a_1, at_ ≤ a_1 ∧ a_1 ≤ s.length ∧ Hid (ScanAt X s a_1 line toks v ((wr.drewN nq).setCell ⟨X, 1, none⟩ (.int .i64 i))) ∧ Hid (Below X w ((wr.drewN nq).setCell ⟨X, 1, none⟩ (.int .i64 i))) ∧ Hid (spanTo digB s a_1 = b)) ∧
            s.length - atOf X ((wr.drewN nq).setCell ⟨X, 1, none⟩ (.int .i64 i)) < s.length - atOf X wr) := Lib.hid fun i hi nq => by
          have hi : i = ((a + 1 : Nat) : Int) := by omega
          subst hi
          refine ⟨⟨a + 1, by omega, hlt, (hSa.out.drewN nq).set1 (a + 1), (hBa.out.trans (below_drewN X wr nq)).setCell (p := ⟨X, 1, none⟩) (Nat.le_refl _) _, (spanTo_step hlt hdg).symm.trans hE.out⟩, ?_⟩
          rw [atOf_scan ((hSa.out.drewN nq).set1 (a + 1)), atOf_scan hSa.out]
          omega
        clear hd hdg
        go_wp2_with fail
        go_quiet (fail)
        go_wp2_with fail
        exact HI.out _ rfl _
      · have hdg : digB s[a] = false := by
          cases h : digB s[a]
          · rfl
          · simp [digB] at h; exact absurd h hd
        obtain rfl : a = b := (spanTo_stop hlt hdg).symm.trans hE.out
        have hx := HX.out
        clear hE hdg
        by_cases d0 : 48 ≤ s[a].toNat
        · have d1 : decide ((48 : Int) ≤ (s[a].toNat : Int)) = true := by simp; omega
          have d2 : decide ((s[a].toNat : Int) ≤ 57) = false := by simp; omega
          clear hd d0
          go_wp2_with fail
          go_quiet (fail)
          go_wp2_with fail
          go_quiet (fail)
          go_wp2_with fail
          clear c0 c1 f1
          rcases HW.out with ⟨u, hu, hp, hdd, hr⟩ | ⟨hr, hp | ⟨u, hu64, hp, hu⟩ | ⟨u, hu, hp, hdd⟩⟩
          · have HP := Lib.hid hp
            have HD := Lib.hid hdd
            have HR := Lib.hid hr
            have p6 : decide ((9223372036854775808 : Int) < (u : Int)) = false := by simp; omega
            clear hp hdd hr HW
            refine (puint_ok ⟨t.toArray⟩ (by show t.toArray.size ≤ _; rw [List.size_toArray]; omega) u (by simpa using HP.out) _).mono ?_
            rintro e w1 ⟨rfl, hb1⟩
            have K1 := Lib.hid (K.out _ _ hb1)
            clear hb1
            go_wp2_with fail
            refine (fmtuint_any u (by omega) _ (HG.out _ K1.out.2)).mono ?_
            rintro e w2 ⟨rfl, hb2⟩
            rw [HD.out]
            have K2 : Hid (ScanAt X s a line toks v w2 ∧ Below X w w2) := Lib.hid ⟨K1.out.1.below hb2, K1.out.2.trans (hb2.mono (Nat.le_of_lt K1.out.1.lt))⟩
            clear hb2
            go_wp2_with fail
            refine (CP.out _ _ K2.out.1 K2.out.2).mono ?_
            rintro e w3 ⟨rfl, hb3, v3, hv3⟩
            have K3 : Hid (Below X w w3 ∧ ∃ v', ScanAt X s a line (toks ++ [⟨3, t, w63 u, line⟩]) v' w3) := Lib.hid ⟨hb3, v3, by
              have e : w63 u = wrap64 (u : Int) := by unfold w63 wrap64; split <;> omega
              rw [e]; exact hv3⟩
            clear hb3 hv3
            go_wp2_with fail
            go_ret
            rw [HR.out]
            exact ⟨rfl, K3.out⟩
          · have HP := Lib.hid hp
            have HR := Lib.hid hr
            clear hp hr HW
            refine (puint_no ⟨t.toArray⟩ (by show t.toArray.size ≤ _; rw [List.size_toArray]; omega) (by simpa using HP.out) _ (HG.out _ (hBa.out.trans (below_drewN X wr _)))).mono ?_
            rintro e w1 ⟨n1, N1, rfl, hb1⟩
            have K1 := Lib.hid (K.out _ _ hb1)
            clear hb1
            have g1 := frozen_blk K1.out.1.blk 1
            have g2 := cell_blk K1.out.1.blk 1
            simp only [List.getElem?_toArray, List.getElem?_cons_zero, List.getElem?_cons_succ] at g2
            go_wp2_with fail
            go_ret
            rw [HR.out]
            exact ⟨rfl, K1.out.2.setCell (p := ⟨X, 1, none⟩) (Nat.le_refl _) _, v, K1.out.1.set1 at_⟩
          · have HP := Lib.hid hp
            have HR := Lib.hid hr
            have p6 : decide ((9223372036854775808 : Int) < (u : Int)) = true := by simp; omega
            clear hp hr HW
            refine (puint_ok ⟨t.toArray⟩ (by show t.toArray.size ≤ _; rw [List.size_toArray]; omega) u (by simpa using HP.out) _).mono ?_
            rintro e w1 ⟨rfl, hb1⟩
            have K1 := Lib.hid (K.out _ _ hb1)
            clear hb1
            have g1 := frozen_blk K1.out.1.blk 1
            have g2 := cell_blk K1.out.1.blk 1
            simp only [List.getElem?_toArray, List.getElem?_cons_zero, List.getElem?_cons_succ] at g2
            go_wp2_with fail
            go_ret
            rw [HR.out]
            exact ⟨rfl, K1.out.2.setCell (p := ⟨X, 1, none⟩) (Nat.le_refl _) _, v, K1.out.1.set1 at_⟩
          · have HP := Lib.hid hp
            have HD : (Lib.decDigits u == t) = false := by simpa using hdd
            have HR := Lib.hid hr
            have p6 : decide ((9223372036854775808 : Int) < (u : Int)) = false := by simp; omega
            clear hp hdd hr HW
            refine (puint_ok ⟨t.toArray⟩ (by show t.toArray.size ≤ _; rw [List.size_toArray]; omega) u (by simpa using HP.out) _).mono ?_
            rintro e w1 ⟨rfl, hb1⟩
            have K1 := Lib.hid (K.out _ _ hb1)
            clear hb1
            go_wp2_with fail
            refine (fmtuint_any u (by omega) _ (HG.out _ K1.out.2)).mono ?_
            rintro e w2 ⟨rfl, hb2⟩
            have K2 : Hid (ScanAt X s a line toks v w2 ∧ Below X w w2) := Lib.hid ⟨K1.out.1.below hb2, K1.out.2.trans (hb2.mono (Nat.le_of_lt K1.out.1.lt))⟩
            clear hb2
            have g1 := frozen_blk K2.out.1.blk 1
            have g2 := cell_blk K2.out.1.blk 1
            simp only [List.getElem?_toArray, List.getElem?_cons_zero, List.getElem?_cons_succ] at g2
            generalize Lib.decDigits u = dd at *
            go_wp2_with fail
            go_ret
            rw [HR.out]
            exact ⟨rfl, K2.out.2.setCell (p := ⟨X, 1, none⟩) (Nat.le_refl _) _, v, K2.out.1.set1 at_⟩
        · have d1 : decide ((48 : Int) ≤ (s[a].toNat : Int)) = false := by simp; omega
          clear hd d0
          go_wp2_with fail
          go_quiet (fail)
          go_wp2_with fail
          go_quiet (fail)
          go_wp2_with fail
          clear c0 c1 f1
          rcases HW.out with ⟨u, hu, hp, hdd, hr⟩ | ⟨hr, hp | ⟨u, hu64, hp, hu⟩ | ⟨u, hu, hp, hdd⟩⟩
          · have HP := Lib.hid hp
            have HD := Lib.hid hdd
            have HR := Lib.hid hr
            have p6 : decide ((9223372036854775808 : Int) < (u : Int)) = false := by simp; omega
            clear hp hdd hr HW
            refine (puint_ok ⟨t.toArray⟩ (by show t.toArray.size ≤ _; rw [List.size_toArray]; omega) u (by simpa using HP.out) _).mono ?_
            rintro e w1 ⟨rfl, hb1⟩
            have K1 := Lib.hid (K.out _ _ hb1)
            clear hb1
            go_wp2_with fail
            refine (fmtuint_any u (by omega) _ (HG.out _ K1.out.2)).mono ?_
            rintro e w2 ⟨rfl, hb2⟩
            rw [HD.out]
            have K2 : Hid (ScanAt X s a line toks v w2 ∧ Below X w w2) := Lib.hid ⟨K1.out.1.below hb2, K1.out.2.trans (hb2.mono (Nat.le_of_lt K1.out.1.lt))⟩
            clear hb2
            go_wp2_with fail
            refine (CP.out _ _ K2.out.1 K2.out.2).mono ?_
            rintro e w3 ⟨rfl, hb3, v3, hv3⟩
            have K3 : Hid (Below X w w3 ∧ ∃ v', ScanAt X s a line (toks ++ [⟨3, t, w63 u, line⟩]) v' w3) := Lib.hid ⟨hb3, v3, by
              have e : w63 u = wrap64 (u : Int) := by unfold w63 wrap64; split <;> omega
              rw [e]; exact hv3⟩
            clear hb3 hv3
            go_wp2_with fail
            go_ret
            rw [HR.out]
            exact ⟨rfl, K3.out⟩
          · have HP := Lib.hid hp
            have HR := Lib.hid hr
            clear hp hr HW
            refine (puint_no ⟨t.toArray⟩ (by show t.toArray.size ≤ _; rw [List.size_toArray]; omega) (by simpa using HP.out) _ (HG.out _ (hBa.out.trans (below_drewN X wr _)))).mono ?_
            rintro e w1 ⟨n1, N1, rfl, hb1⟩
            have K1 := Lib.hid (K.out _ _ hb1)
            clear hb1
            have g1 := frozen_blk K1.out.1.blk 1
            have g2 := cell_blk K1.out.1.blk 1
            simp only [List.getElem?_toArray, List.getElem?_cons_zero, List.getElem?_cons_succ] at g2
            go_wp2_with fail
            go_ret
            rw [HR.out]
            exact ⟨rfl, K1.out.2.setCell (p := ⟨X, 1, none⟩) (Nat.le_refl _) _, v, K1.out.1.set1 at_⟩
          · have HP := Lib.hid hp
            have HR := Lib.hid hr
            have p6 : decide ((9223372036854775808 : Int) < (u : Int)) = true := by simp; omega
            clear hp hr HW
            refine (puint_ok ⟨t.toArray⟩ (by show t.toArray.size ≤ _; rw [List.size_toArray]; omega) u (by simpa using HP.out) _).mono ?_
            rintro e w1 ⟨rfl, hb1⟩
            have K1 := Lib.hid (K.out _ _ hb1)
            clear hb1
            have g1 := frozen_blk K1.out.1.blk 1
            have g2 := cell_blk K1.out.1.blk 1
            simp only [List.getElem?_toArray, List.getElem?_cons_zero, List.getElem?_cons_succ] at g2
            go_wp2_with fail
            go_ret
            rw [HR.out]
            exact ⟨rfl, K1.out.2.setCell (p := ⟨X, 1, none⟩) (Nat.le_refl _) _, v, K1.out.1.set1 at_⟩
          · have HP := Lib.hid hp
            have HD : (Lib.decDigits u == t) = false := by simpa using hdd
            have HR := Lib.hid hr
            have p6 : decide ((9223372036854775808 : Int) < (u : Int)) = false := by simp; omega
            clear hp hdd hr HW
            refine (puint_ok ⟨t.toArray⟩ (by show t.toArray.size ≤ _; rw [List.size_toArray]; omega) u (by simpa using HP.out) _).mono ?_
            rintro e w1 ⟨rfl, hb1⟩
            have K1 := Lib.hid (K.out _ _ hb1)
            clear hb1
            go_wp2_with fail
            refine (fmtuint_any u (by omega) _ (HG.out _ K1.out.2)).mono ?_
            rintro e w2 ⟨rfl, hb2⟩
            have K2 : Hid (ScanAt X s a line toks v w2 ∧ Below X w w2) := Lib.hid ⟨K1.out.1.below hb2, K1.out.2.trans (hb2.mono (Nat.le_of_lt K1.out.1.lt))⟩
            clear hb2
            have g1 := frozen_blk K2.out.1.blk 1
            have g2 := cell_blk K2.out.1.blk 1
            simp only [List.getElem?_toArray, List.getElem?_cons_zero, List.getElem?_cons_succ] at g2
            generalize Lib.decDigits u = dd at *
            go_wp2_with fail
            go_ret
            rw [HR.out]
            exact ⟨rfl, K2.out.2.setCell (p := ⟨X, 1, none⟩) (Nat.le_refl _) _, v, K2.out.1.set1 at_⟩
    · have K : Hid (∀ k w', Below (wr.drewN k).heap.size (wr.drewN k) w' → ScanAt X s a line toks v w' ∧ Below X w w') := Lib.hid fun k w' hb =>
        ⟨(hSa.out.drewN k).below hb, (hBa.out.trans (below_drewN X wr k)).trans (hb.mono (Nat.le_of_lt (hSa.out.drewN k).lt))⟩
      have p4 : ¬ ((a : Int) < (s.length : Int)) := by omega
      have p5 : decide ((a : Int) < (s.length : Int)) = false := by simpa using p4
      obtain rfl : a = b := (spanTo_end (by omega)).symm.trans hE.out
      have hx := HX.out
      clear hE p4
      go_wp2_with fail
      go_quiet (fail)
      go_wp2_with fail
      go_quiet (fail)
      go_wp2_with fail
      clear c0 c1 f1
      rcases HW.out with ⟨u, hu, hp, hdd, hr⟩ | ⟨hr, hp | ⟨u, hu64, hp, hu⟩ | ⟨u, hu, hp, hdd⟩⟩
      · have HP := Lib.hid hp
        have HD := Lib.hid hdd
        have HR := Lib.hid hr
        have p6 : decide ((9223372036854775808 : Int) < (u : Int)) = false := by simp; omega
        clear hp hdd hr HW
        refine (puint_ok ⟨t.toArray⟩ (by show t.toArray.size ≤ _; rw [List.size_toArray]; omega) u (by simpa using HP.out) _).mono ?_
        rintro e w1 ⟨rfl, hb1⟩
        have K1 := Lib.hid (K.out _ _ hb1)
        clear hb1
        go_wp2_with fail
        refine (fmtuint_any u (by omega) _ (HG.out _ K1.out.2)).mono ?_
        rintro e w2 ⟨rfl, hb2⟩
        rw [HD.out]
        have K2 : Hid (ScanAt X s a line toks v w2 ∧ Below X w w2) := Lib.hid ⟨K1.out.1.below hb2, K1.out.2.trans (hb2.mono (Nat.le_of_lt K1.out.1.lt))⟩
        clear hb2
        go_wp2_with fail
        refine (CP.out _ _ K2.out.1 K2.out.2).mono ?_
        rintro e w3 ⟨rfl, hb3, v3, hv3⟩
        have K3 : Hid (Below X w w3 ∧ ∃ v', ScanAt X s a line (toks ++ [⟨3, t, w63 u, line⟩]) v' w3) := Lib.hid ⟨hb3, v3, by
          have e : w63 u = wrap64 (u : Int) := by unfold w63 wrap64; split <;> omega
          rw [e]; exact hv3⟩
        clear hb3 hv3
        go_wp2_with fail
        go_ret
        rw [HR.out]
        exact ⟨rfl, K3.out⟩
      · have HP := Lib.hid hp
        have HR := Lib.hid hr
        clear hp hr HW
        refine (puint_no ⟨t.toArray⟩ (by show t.toArray.size ≤ _; rw [List.size_toArray]; omega) (by simpa using HP.out) _ (HG.out _ (hBa.out.trans (below_drewN X wr _)))).mono ?_
        rintro e w1 ⟨n1, N1, rfl, hb1⟩
        have K1 := Lib.hid (K.out _ _ hb1)
        clear hb1
        have g1 := frozen_blk K1.out.1.blk 1
        have g2 := cell_blk K1.out.1.blk 1
        simp only [List.getElem?_toArray, List.getElem?_cons_zero, List.getElem?_cons_succ] at g2
        go_wp2_with fail
        go_ret
        rw [HR.out]
        exact ⟨rfl, K1.out.2.setCell (p := ⟨X, 1, none⟩) (Nat.le_refl _) _, v, K1.out.1.set1 at_⟩
      · have HP := Lib.hid hp
        have HR := Lib.hid hr
        have p6 : decide ((9223372036854775808 : Int) < (u : Int)) = true := by simp; omega
        clear hp hr HW
        refine (puint_ok ⟨t.toArray⟩ (by show t.toArray.size ≤ _; rw [List.size_toArray]; omega) u (by simpa using HP.out) _).mono ?_
        rintro e w1 ⟨rfl, hb1⟩
        have K1 := Lib.hid (K.out _ _ hb1)
        clear hb1
        have g1 := frozen_blk K1.out.1.blk 1
        have g2 := cell_blk K1.out.1.blk 1
        simp only [List.getElem?_toArray, List.getElem?_cons_zero, List.getElem?_cons_succ] at g2
        go_wp2_with fail
        go_ret
        rw [HR.out]
        exact ⟨rfl, K1.out.2.setCell (p := ⟨X, 1, none⟩) (Nat.le_refl _) _, v, K1.out.1.set1 at_⟩
      · have HP := Lib.hid hp
        have HD : (Lib.decDigits u == t) = false := by simpa using hdd
        have HR := Lib.hid hr
        have p6 : decide ((9223372036854775808 : Int) < (u : Int)) = false := by simp; omega
        clear hp hdd hr HW
        refine (puint_ok ⟨t.toArray⟩ (by show t.toArray.size ≤ _; rw [List.size_toArray]; omega) u (by simpa using HP.out) _).mono ?_
        rintro e w1 ⟨rfl, hb1⟩
        have K1 := Lib.hid (K.out _ _ hb1)
        clear hb1
        go_wp2_with fail
        refine (fmtuint_any u (by omega) _ (HG.out _ K1.out.2)).mono ?_
        rintro e w2 ⟨rfl, hb2⟩
        have K2 : Hid (ScanAt X s a line toks v w2 ∧ Below X w w2) := Lib.hid ⟨K1.out.1.below hb2, K1.out.2.trans (hb2.mono (Nat.le_of_lt K1.out.1.lt))⟩
        clear hb2
        have g1 := frozen_blk K2.out.1.blk 1
        have g2 := cell_blk K2.out.1.blk 1
        simp only [List.getElem?_toArray, List.getElem?_cons_zero, List.getElem?_cons_succ] at g2
        generalize Lib.decDigits u = dd at *
        go_wp2_with fail
        go_ret
        rw [HR.out]
        exact ⟨rfl, K2.out.2.setCell (p := ⟨X, 1, none⟩) (Nat.le_refl _) _, v, K2.out.1.set1 at_⟩
end Go.Proofs.YthepjanojmemaaaGreatDoor
