/-
  lex.blank walked.
-/
import Derived.Test.YthepjanojmemaaaGreatDoorLexName
set_option linter.unusedVariables false
set_option linter.unusedSimpArgs false
namespace Go.Proofs.YthepjanojmemaaaGreatDoor
open Go.RowKit

theorem quiet_after {P : Program} {f : FuncId} {args : Array Value} {w : World} {k x : Nat} {v : Value} (h : Calls P f args (w.drewN (k + x)) fun e w' => e = .returned v ∧ w' = w.drewN (k + x)) :
    Calls P f args (w.drewN (k + x)) fun e w'' => e = .returned v ∧ ∃ n, w'' = w.drewN (k + n) := h.mono fun _ _ ⟨he, hm⟩ => ⟨he, x, hm⟩
theorem u8_ne {c : UInt8} {d : Nat} (hd : d < 256) (h : c ≠ UInt8.ofNat d) : ((c.toNat : Int) == (d : Int)) = false := by
  simp only [beq_eq_false_iff_ne]
  intro e
  apply h
  have : c.toNat = d := by omega
  rw [← this]; simp
set_option maxHeartbeats 6400000 in
set_option maxRecDepth 100000 in
theorem blank_any (X : Nat) (s : List UInt8) (at_ line : Nat) (toks : List Tok) (v : Value) (w : World) (hs : s.length ≤ 65536) (hln : line ≤ at_) (h2 : at_ ≤ s.length) (hS : ScanAt X s at_ line toks v w) :
    Calls Tryz.prog 10 #[.pointer (some ⟨X, 0, none⟩)] w (Stepped X s w (blankF s at_ line toks)) := by
  have HS := Lib.hid hS
  clear hS
  obtain ⟨r, hr⟩ : ∃ r, blankGo (s.drop at_) at_ line = r := ⟨_, rfl⟩
  have hF : blankF s at_ line toks = ⟨r.1, r.2.1, r.2.2, toks⟩ := by rw [← hr]; rfl
  generalize blankF s at_ line toks = rr at *
  have HF := Lib.hid hF
  have HR := Lib.hid hr
  clear hr hF
  have CH : Hid (∀ (l : List UInt8) W, Calls Tryz.prog 11 #[.string ⟨l.toArray⟩, .string ⟨#[47, 47]⟩] W fun e w' => e = .returned (.bool (slashB l)) ∧ w' = W) := Lib.hid fun l W => by
    refine (Tryz.strings_HasPrefix ⟨l.toArray⟩ ⟨#[47, 47]⟩ W).mono ?_
    rintro e w' ⟨he, hw⟩
    exact ⟨he, hw⟩
  go_enter Tryz.func10, Tryz.ntmps10
  go_wp2_with fail
  go_loopw [] (fun wr => ∃ a n : Nat, n ≤ a ∧ a ≤ s.length ∧ Hid (ScanAt X s a n toks v wr) ∧ Hid (Below X w wr) ∧ Hid (blankGo (s.drop a) a n = r)) (fun wr => s.length - atOf X wr)
  case atStart => exact ⟨at_, line, hln, h2, HS, Below.refl _ _, HR⟩
  case round =>
    obtain ⟨a, n, ha, hl, hSa, hBa, hE⟩ := hrel
    clear HR
    have c0 := cell_blk hSa.out.blk 0
    have c1 := cell_blk hSa.out.blk 1
    have c2 := cell_blk hSa.out.blk 2
    have f1 := frozen_blk hSa.out.blk 1
    have f2 := frozen_blk hSa.out.blk 2
    simp only [List.getElem?_toArray, List.getElem?_cons_zero, List.getElem?_cons_succ] at c0 c1 c2
    have HEnd : Hid (∀ (z : Value) (st : St) (k : Nat), z = stV st → (st, a, n) = r → Stepped X s w rr (.returned z) (wr.drewN k)) := Lib.hid fun z st k hz hr => by
      subst hz hr
      rw [HF.out]
      exact ⟨rfl, hBa.out.trans (below_drewN X wr k), v, hSa.out.drewN k⟩
    have hw1 : IntKind.i64.wrap ((a : Int) + 1) = a + 1 := by rw [IntKind.wrap_i64]; omega
    have hw2 : IntKind.i64.wrap ((n : Int) + 1) = n + 1 := by rw [IntKind.wrap_i64]; omega
    have p1 : (0 : Int) ≤ (a : Int) := Int.natCast_nonneg _
    have p2 : (a : Int) ≤ (s.length : Int) := by omega
    have p5 : (n : Int) ≤ 65536 := by omega
    by_cases hlt : a < s.length
    · obtain ⟨c, hc⟩ : ∃ c, s[a] = c := ⟨_, rfl⟩
      have hget : ∀ h, ((⟨s.toArray⟩ : ByteArray)[a]'h) = c := fun h => hc
      have hd : s.drop a = c :: s.drop (a + 1) := by rw [← hc]; exact List.drop_eq_getElem_cons hlt
      have p4 : (a : Int) < (s.length : Int) := by omega
      have hE := hE.out
      rw [hd] at hE
      have CS := Lib.hid (fun W => CH.out (s.drop a) W)
      rw [hd] at CS
      have hx := extract_drop s a
      have HD := Lib.hid hd
      clear hc hd CH
      by_cases h10 : c = 10
      · have e1 : ((c.toNat : Int) == 10) = true := by rw [h10]; rfl
        have HQ := Lib.hid (show blankGo (s.drop (a + 1)) (a + 1) (n + 1) = r by rw [← hE, blankGo, if_pos h10])
        have HI : Hid (∀ (W : World) (i : Int), i = (a : Int) + 1 → ScanAt X s a (n + 1) toks v W → Below X w W → (∃ a_1 n_1, n_1 ≤ a_1 ∧ a_1 ≤ s.length ∧ Hid (ScanAt X s a_1 n_1 toks v (W.setCell ⟨X, 1, none⟩ (.int .i64 i))) ∧ Hid (Below X w (W.setCell ⟨X, 1, none⟩ (.int .i64 i))) ∧ Hid (blankGo (s.drop a_1) a_1 n_1 = r)) ∧
            s.length - atOf X (W.setCell ⟨X, 1, none⟩ (.int .i64 i)) < s.length - atOf X wr) := Lib.hid fun W i hi hSW hBW => by
          have hi : i = ((a + 1 : Nat) : Int) := by omega
          subst hi
          refine ⟨⟨a + 1, (n + 1), by omega, hlt, hSW.set1 (a + 1), hBW.setCell (p := ⟨X, 1, none⟩) (Nat.le_refl _) _, HQ.out⟩, ?_⟩
          rw [atOf_scan (hSW.set1 (a + 1)), atOf_scan hSa.out]
          omega
        clear hE h10
        go_wp2_with fail
        go_quiet (fail)
        go_wp2_with fail
        go_quiet (fail)
        go_wp2_with fail
        exact HI.out _ _ rfl ((hSa.out.drewN _).set2 (n + 1)) ((hBa.out.trans (below_drewN X wr _)).setCell (p := ⟨X, 2, none⟩) (Nat.le_refl _) _)
      · have e1 : ((c.toNat : Int) == 10) = false := u8_ne (d := 10) (by decide) h10
        by_cases hsp : spaceB c = true
        · have hsp2 : c = 32 ∨ c = 9 ∨ c = 13 := by simpa [spaceB, or_assoc] using hsp
          rcases hsp2 with h32 | h32 | h32
          · have e2 : ((c.toNat : Int) == 32) = true := by rw [h32]; rfl
            clear h32
            have HQ := Lib.hid (show blankGo (s.drop (a + 1)) (a + 1) n = r by rw [← hE, blankGo, if_neg h10, if_pos hsp])
            have HI : Hid (∀ (W : World) (i : Int), i = (a : Int) + 1 → ScanAt X s a n toks v W → Below X w W → (∃ a_1 n_1, n_1 ≤ a_1 ∧ a_1 ≤ s.length ∧ Hid (ScanAt X s a_1 n_1 toks v (W.setCell ⟨X, 1, none⟩ (.int .i64 i))) ∧ Hid (Below X w (W.setCell ⟨X, 1, none⟩ (.int .i64 i))) ∧ Hid (blankGo (s.drop a_1) a_1 n_1 = r)) ∧
                s.length - atOf X (W.setCell ⟨X, 1, none⟩ (.int .i64 i)) < s.length - atOf X wr) := Lib.hid fun W i hi hSW hBW => by
              have hi : i = ((a + 1 : Nat) : Int) := by omega
              subst hi
              refine ⟨⟨a + 1, n, by omega, hlt, hSW.set1 (a + 1), hBW.setCell (p := ⟨X, 1, none⟩) (Nat.le_refl _) _, HQ.out⟩, ?_⟩
              rw [atOf_scan (hSW.set1 (a + 1)), atOf_scan hSa.out]
              omega
            clear hE hsp h10
            go_wp2_with fail
            go_quiet (fail)
            go_wp2_with fail
            go_quiet (fail)
            go_wp2_with fail
            exact HI.out _ _ rfl (hSa.out.drewN _) (hBa.out.trans (below_drewN X wr _))
          · have e2 : ((c.toNat : Int) == 32) = false := by rw [h32]; rfl
            have e3 : ((c.toNat : Int) == 9) = true := by rw [h32]; rfl
            clear h32
            have HQ := Lib.hid (show blankGo (s.drop (a + 1)) (a + 1) n = r by rw [← hE, blankGo, if_neg h10, if_pos hsp])
            have HI : Hid (∀ (W : World) (i : Int), i = (a : Int) + 1 → ScanAt X s a n toks v W → Below X w W → (∃ a_1 n_1, n_1 ≤ a_1 ∧ a_1 ≤ s.length ∧ Hid (ScanAt X s a_1 n_1 toks v (W.setCell ⟨X, 1, none⟩ (.int .i64 i))) ∧ Hid (Below X w (W.setCell ⟨X, 1, none⟩ (.int .i64 i))) ∧ Hid (blankGo (s.drop a_1) a_1 n_1 = r)) ∧
                s.length - atOf X (W.setCell ⟨X, 1, none⟩ (.int .i64 i)) < s.length - atOf X wr) := Lib.hid fun W i hi hSW hBW => by
              have hi : i = ((a + 1 : Nat) : Int) := by omega
              subst hi
              refine ⟨⟨a + 1, n, by omega, hlt, hSW.set1 (a + 1), hBW.setCell (p := ⟨X, 1, none⟩) (Nat.le_refl _) _, HQ.out⟩, ?_⟩
              rw [atOf_scan (hSW.set1 (a + 1)), atOf_scan hSa.out]
              omega
            clear hE hsp h10
            go_wp2_with fail
            go_quiet (fail)
            go_wp2_with fail
            go_quiet (fail)
            go_wp2_with fail
            exact HI.out _ _ rfl (hSa.out.drewN _) (hBa.out.trans (below_drewN X wr _))
          · have e2 : ((c.toNat : Int) == 32) = false := by rw [h32]; rfl
            have e3 : ((c.toNat : Int) == 9) = false := by rw [h32]; rfl
            have e4 : ((c.toNat : Int) == 13) = true := by rw [h32]; rfl
            clear h32
            have HQ := Lib.hid (show blankGo (s.drop (a + 1)) (a + 1) n = r by rw [← hE, blankGo, if_neg h10, if_pos hsp])
            have HI : Hid (∀ (W : World) (i : Int), i = (a : Int) + 1 → ScanAt X s a n toks v W → Below X w W → (∃ a_1 n_1, n_1 ≤ a_1 ∧ a_1 ≤ s.length ∧ Hid (ScanAt X s a_1 n_1 toks v (W.setCell ⟨X, 1, none⟩ (.int .i64 i))) ∧ Hid (Below X w (W.setCell ⟨X, 1, none⟩ (.int .i64 i))) ∧ Hid (blankGo (s.drop a_1) a_1 n_1 = r)) ∧
                s.length - atOf X (W.setCell ⟨X, 1, none⟩ (.int .i64 i)) < s.length - atOf X wr) := Lib.hid fun W i hi hSW hBW => by
              have hi : i = ((a + 1 : Nat) : Int) := by omega
              subst hi
              refine ⟨⟨a + 1, n, by omega, hlt, hSW.set1 (a + 1), hBW.setCell (p := ⟨X, 1, none⟩) (Nat.le_refl _) _, HQ.out⟩, ?_⟩
              rw [atOf_scan (hSW.set1 (a + 1)), atOf_scan hSa.out]
              omega
            clear hE hsp h10
            go_wp2_with fail
            go_quiet (fail)
            go_wp2_with fail
            go_quiet (fail)
            go_wp2_with fail
            exact HI.out _ _ rfl (hSa.out.drewN _) (hBa.out.trans (below_drewN X wr _))
        · have hsp3 : c ≠ 32 ∧ c ≠ 9 ∧ c ≠ 13 := by simpa [spaceB, and_assoc] using hsp
          have e2 : ((c.toNat : Int) == 32) = false := u8_ne (d := 32) (by decide) hsp3.1
          have e3 : ((c.toNat : Int) == 9) = false := u8_ne (d := 9) (by decide) hsp3.2.1
          have e4 : ((c.toNat : Int) == 13) = false := u8_ne (d := 13) (by decide) hsp3.2.2
          clear hsp3
          by_cases h47 : c = 47
          · have e5 : ((c.toNat : Int) == 47) = true := by rw [h47]; rfl
            cases hsl0 : slashB (c :: s.drop (a + 1))
            · have hsl : ¬ (c = 47 ∧ slashB (c :: s.drop (a + 1)) = true) := by rw [hsl0]; simp
              rw [hsl0] at CS
              clear hsl0
              have HR := Lib.hid (show (St.sign, a, n) = r by
                rw [← hE, blankGo, if_neg h10, if_neg hsp, if_neg hsl, h47]; rfl)
              have g1 : decide ((97 : Int) ≤ (c.toNat : Int)) = false := by rw [h47]; rfl
              have g3 : decide ((48 : Int) ≤ (c.toNat : Int)) = false := by rw [h47]; rfl
              have hx2 : (⟨s.toArray⟩ : ByteArray).extract a s.length = ⟨(c :: s.drop (a + 1)).toArray⟩ := by rw [hx, HD.out]
              clear h47 h10 hsp hsl hx
              clear hE
              go_wp2_with fail
              go_quiet (fail)
              go_wp2_with fail
              go_quiet (fail)
              go_wp2_with fail
              (go_quiet ((go_at_call 11; exact quiet_after (CS.out _)))); go_wp2_with fail
              go_ret
              exact HEnd.out _ .sign _ rfl HR.out
            · rw [hsl0] at CS
              have HR := Lib.hid (show (St.remark, a, n) = r by rw [← hE, blankGo, if_neg h10, if_neg hsp, if_pos ⟨h47, hsl0⟩])
              have hx2 : (⟨s.toArray⟩ : ByteArray).extract a s.length = ⟨(c :: s.drop (a + 1)).toArray⟩ := by rw [hx, HD.out]
              clear h47 h10 hsp hsl0 hx
              clear hE
              go_wp2_with fail
              go_quiet (fail)
              go_wp2_with fail
              go_quiet (fail)
              go_wp2_with fail
              (go_quiet ((go_at_call 11; exact quiet_after (CS.out _)))); go_wp2_with fail
              go_ret
              exact HEnd.out _ .remark _ rfl HR.out
          · have e5 : ((c.toNat : Int) == 47) = false := u8_ne (d := 47) (by decide) h47
            have hsl : ¬ (c = 47 ∧ slashB (c :: s.drop (a + 1)) = true) := fun h => h47 h.1
            clear h47 CS hx
            by_cases hlo : lowB c = true
            · have hc' : 97 ≤ c.toNat ∧ c.toNat ≤ 122 := by simpa [lowB] using hlo
              have g1 : decide ((97 : Int) ≤ (c.toNat : Int)) = true := by simp; omega
              have g2 : decide ((c.toNat : Int) ≤ 122) = true := by simp; omega
              have HR := Lib.hid (show (St.name, a, n) = r by rw [← hE, blankGo, if_neg h10, if_neg hsp, if_neg hsl, if_pos hlo])
              clear hc' hlo hsp hsl h10
              clear hE
              go_wp2_with fail
              go_quiet (fail)
              go_wp2_with fail
              go_quiet (fail)
              go_wp2_with fail
              go_quiet (fail); go_wp2_with fail
              go_ret
              exact HEnd.out _ .name _ rfl HR.out
            · have hlo' : ¬ (97 ≤ c.toNat ∧ c.toNat ≤ 122) := by simpa [lowB] using hlo
              by_cases hdi : digB c = true
              · have hc' : 48 ≤ c.toNat ∧ c.toNat ≤ 57 := by simpa [digB] using hdi
                have g1 : decide ((97 : Int) ≤ (c.toNat : Int)) = false := by simp; omega
                have g3 : decide ((48 : Int) ≤ (c.toNat : Int)) = true := by simp; omega
                have g4 : decide ((c.toNat : Int) ≤ 57) = true := by simp; omega
                have HR := Lib.hid (show (St.number, a, n) = r by rw [← hE, blankGo, if_neg h10, if_neg hsp, if_neg hsl, if_neg hlo, if_pos hdi])
                clear hc' hlo hlo' hdi hsp hsl h10
                clear hE
                go_wp2_with fail
                go_quiet (fail)
                go_wp2_with fail
                go_quiet (fail)
                go_wp2_with fail
                go_quiet (fail); go_wp2_with fail
                go_ret
                exact HEnd.out _ .number _ rfl HR.out
              · have hdi' : ¬ (48 ≤ c.toNat ∧ c.toNat ≤ 57) := by simpa [digB] using hdi
                have HR := Lib.hid (show (St.sign, a, n) = r by rw [← hE, blankGo, if_neg h10, if_neg hsp, if_neg hsl, if_neg hlo, if_neg hdi])
                by_cases k1 : 97 ≤ c.toNat
                · have g1 : decide ((97 : Int) ≤ (c.toNat : Int)) = true := by simp; omega
                  have g2 : decide ((c.toNat : Int) ≤ 122) = false := by simp; omega
                  have g3 : decide ((48 : Int) ≤ (c.toNat : Int)) = true := by simp; omega
                  have g4 : decide ((c.toNat : Int) ≤ 57) = false := by simp; omega
                  clear hlo hlo' hdi hdi' hsp hsl h10 k1
                  clear hE
                  go_wp2_with fail
                  go_quiet (fail)
                  go_wp2_with fail
                  go_quiet (fail)
                  go_wp2_with fail
                  go_quiet (fail); go_wp2_with fail
                  go_ret
                  exact HEnd.out _ .sign _ rfl HR.out
                · by_cases k2 : 48 ≤ c.toNat
                  · have g1 : decide ((97 : Int) ≤ (c.toNat : Int)) = false := by simp; omega
                    have g3 : decide ((48 : Int) ≤ (c.toNat : Int)) = true := by simp; omega
                    have g4 : decide ((c.toNat : Int) ≤ 57) = false := by simp; omega
                    clear hlo hlo' hdi hdi' hsp hsl h10 k1 k2
                    clear hE
                    go_wp2_with fail
                    go_quiet (fail)
                    go_wp2_with fail
                    go_quiet (fail)
                    go_wp2_with fail
                    go_quiet (fail); go_wp2_with fail
                    go_ret
                    exact HEnd.out _ .sign _ rfl HR.out
                  · have g1 : decide ((97 : Int) ≤ (c.toNat : Int)) = false := by simp; omega
                    have g3 : decide ((48 : Int) ≤ (c.toNat : Int)) = false := by simp; omega
                    clear hlo hlo' hdi hdi' hsp hsl h10 k1 k2
                    clear hE
                    go_wp2_with fail
                    go_quiet (fail)
                    go_wp2_with fail
                    go_quiet (fail)
                    go_wp2_with fail
                    go_quiet (fail); go_wp2_with fail
                    go_ret
                    exact HEnd.out _ .sign _ rfl HR.out
    · have p4 : ¬ ((a : Int) < (s.length : Int)) := by omega
      have p6 : decide ((a : Int) < (s.length : Int)) = false := by simpa using p4
      have hE := hE.out
      rw [List.drop_of_length_le (by omega), blankGo] at hE
      have HR := Lib.hid hE
      clear hE p4
      go_wp2_with fail
      go_quiet (fail)
      go_wp2_with fail
      go_ret
      exact HEnd.out _ .stop _ rfl HR.out
end Go.Proofs.YthepjanojmemaaaGreatDoor
