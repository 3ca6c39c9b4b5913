/-
  LexSpells walked.
-/
import Derived.Test.YtdjpnaglkonjbaaDoorLexJoins
namespace Go.Proofs.YtdjpnaglkonjbaaDoor
open Go.RowKit

theorem HalfRow.drewN {w : World} {B g n cap : Nat} {f : Tok → Tok} {l : List Tok} {k : Nat} (h : HalfRow w B g n cap f l k) (q : Nat) : HalfRow (w.drewN q) B g n cap f l k := h
theorem spell_step (l : List Tok) (k : Nat) (h : k < l.length) : spell (l.take (k + 1)) = spell (l.take k) ++ l[k].text ++ [32] := by
  unfold spell
  rw [List.take_succ_eq_append_getElem h, List.flatMap_append]
  simp
theorem spell_len (l : List Tok) : (spell l).length = roomOf l := by
  unfold spell roomOf
  induction l with
  | nil => rfl
  | cons t l ih => rw [List.flatMap_cons, List.length_append, ih]; simp

set_option maxHeartbeats 4000000 in
set_option maxRecDepth 100000 in
theorem lexSpells_walk (a0 : ByteArray) (s0 : a0.size ≤ 140737488355328) (w : World) (G : LGlobs w) :
    Calls Tryd.prog 11 #[.string a0] w fun e w' => e = .returned (.bool true) ∧ Below w.heap.size w w' := by
  obtain ⟨la, rfl⟩ : ∃ l : List UInt8, a0 = ⟨l.toArray⟩ := ⟨a0.data.toList, by simp⟩
  have z0 : (⟨la.toArray⟩ : ByteArray).size = la.length := List.size_toArray
  rw [z0] at s0
  clear z0
  have C5 : Hid (∀ W, LGlobs W → Calls Tryd.prog 25 #[] W fun e w' => e = .returned (.bool true) ∧ Below W.heap.size W w') := Lib.hid fun W GW => lalive_any W GW
  have HG0 := Lib.hid G
  clear G
  by_cases hbig : 65536 < la.length
  · have C1 := Lib.hid (tokens_big la s0 hbig w)
    go_enter Tryd.func11, Tryd.ntmps11
    go_wp2_with fail
    refine C1.out.mono ?_
    rintro e w1 ⟨rfl, rfl⟩
    go_wp2_with fail
    refine (C5.out _ HG0.out).mono ?_
    rintro e w9 ⟨rfl, hb9⟩
    go_wp2_with fail
    go_ret
    exact ⟨rfl, hb9⟩
  · have hla : la.length ≤ 65536 := by omega
    have C1 := Lib.hid (tokens_any la hla w HG0.out)
    rcases hA : scan (la.length + 1) la 0 [] with na | ta
    · have HA : Hid (Scans la 0 [] (.bad na)) := Lib.hid hA
      clear hA
      go_enter Tryd.func11, Tryd.ntmps11
      go_wp2_with fail
      refine C1.out.mono ?_
      rintro e w1 ho
      obtain ⟨rfl, hb⟩ := ho.bad HA.out
      have HB1 := Lib.hid hb
      clear ho hb
      go_wp2_with fail
      refine (C5.out _ (HG0.out.below HB1.out)).mono ?_
      rintro e w9 ⟨rfl, hb9⟩
      have HB9 := Lib.hid (HB1.out.trans (hb9.mono HB1.out.size))
      clear hb9
      go_wp2_with fail
      go_ret
      exact ⟨rfl, HB9.out⟩
    · have HA : Hid (Scans la 0 [] (.ok ta)) := Lib.hid hA
      have HFA := Lib.hid (lex_facts hA)
      clear hA
      by_cases hmid : 32768 < la.length
      · have hz : decide ((32768 : Int) < (la.length : Int)) = true := by simp; omega
        go_enter Tryd.func11, Tryd.ntmps11
        go_wp2_with fail
        refine C1.out.mono ?_
        rintro e w1 ho
        obtain ⟨v, rfl, ht, hb⟩ := ho.ok HA.out
        have HB1 := Lib.hid hb
        clear ho hb ht
        go_wp2_with fail
        refine (C5.out _ (HG0.out.below HB1.out)).mono ?_
        rintro e w9 ⟨rfl, hb9⟩
        have HB9 := Lib.hid (HB1.out.trans (hb9.mono HB1.out.size))
        clear hb9
        go_wp2_with fail
        go_ret
        exact ⟨rfl, HB9.out⟩
      · have hz : decide ((32768 : Int) < (la.length : Int)) = false := by simp; omega
        have hn : ta.length ≤ 32768 := by have := HFA.out.1; omega
        have hroom : roomOf ta ≤ 65536 := by have := HFA.out.2.2.2; omega
        have C2 : Hid (∀ (s : ByteArray), s = ⟨(spell ta).toArray⟩ → ∀ W, LGlobs W → Calls Tryd.prog 26 #[.string s] W (TokOut (spell ta) W)) := Lib.hid fun s hs W GW => by subst hs; exact tokens_any _ (by rw [spell_len]; exact hroom) W GW
        have HJ : Hid (Scans (spell ta) 0 [] (.ok (ta.map fun t => { t with line := 0 }))) := Lib.hid (by have := spell_scans ta [] HFA.out.2.2.1; rw [List.nil_append] at this; exact this)
        obtain ⟨f, hf⟩ : ∃ f : Tok → Tok, (fun t : Tok => ({ t with line := 0 } : Tok)) = f := ⟨_, rfl⟩
        rw [hf] at HJ
        have HF := Lib.hid hf
        clear hf hroom
        go_enter Tryd.func11, Tryd.ntmps11
        go_wp2_with fail
        refine C1.out.mono ?_
        rintro e w1 ho
        obtain ⟨v, rfl, ht, hb⟩ := ho.ok HA.out
        have HB1 := Lib.hid hb
        have HG1 := Lib.hid (HG0.out.below hb)
        have HT1 := Lib.hid ht
        clear ho hb ht
        go_wp2_with fail
        refine (twinToks_any v ta _ w1 HT1.out (by omega)).mono ?_
        rintro e w2 ⟨rfl, ho2, hb2⟩
        have HO2 : Hid (HalfRow w2 w1.heap.size w1.heap.size ta.length (ta.length + 2) f ta 0) := Lib.hid (by unfold HalfRow; rw [List.take_zero, List.map_nil, List.nil_append, List.drop_zero]; exact ho2)
        have HB2 := Lib.hid hb2
        clear ho2 hb2
        go_wp2_with fail
        obtain ⟨A, c, rfl, hr⟩ := HT1.out
        go_loopw [6, 8] (fun t i wr => ∃ k : Nat, k ≤ ta.length ∧ i = .int .i64 k ∧ t = .string ⟨(spell (ta.take k)).toArray⟩ ∧ Hid (HalfRow wr w1.heap.size w1.heap.size ta.length (ta.length + 2) f ta k) ∧ Hid (Below w1.heap.size w1 wr)) (fun _ i _ => ta.length - (intOf i).toNat)
        case atStart => exact ⟨0, Nat.zero_le _, rfl, rfl, HO2, HB2⟩
        case round =>
          obtain ⟨k, hk, rfl, rfl, hO, hB⟩ := hrel
          by_cases hlt : k < ta.length
          · obtain ⟨g, rfl, -, hg, hc⟩ := hr (by rintro rfl; simp at hlt)
            have htk := (hc k _ (List.getElem?_eq_getElem hlt)).keep (w' := wr) (fun o' => hB.out.cell (p := ⟨g, o', none⟩) hg)
            obtain ⟨d0, d1, d2, d3⟩ := htk
            have hne : g ≠ w1.heap.size := by omega
            have c3 : wr.cell? ⟨w1.heap.size, k * 4 + 3, none⟩ = some (.int .i64 (ta[k].line : Int)) := hO.out.get rfl hlt 3 (by decide)
            have f3 : wr.frozen? ⟨w1.heap.size, k * 4 + 3, none⟩ = false := World.ownsRow.frozenAt hO.out _
            have HS := Lib.hid (hO.out.step hlt 0 (by rw [← HF.out]))
            have HB2 := Lib.hid (hB.out.setCell (p := ⟨w1.heap.size, k * 4 + 3, none⟩) (Nat.le_refl _) (.int .i64 ((0 : Nat) : Int)))
            rw [show (((0 : Nat) : Int)) = 0 from rfl] at HS HB2
            have HG2 := Lib.hid (HG1.out.below HB2.out)
            have hok := HFA.out.2.2.1 _ (List.getElem_mem hlt)
            have hem : ta[k].text.isEmpty = false := by obtain ⟨c', r', h', _⟩ := hok.head; rw [h']; rfl
            have CE : Hid ((⟨(spell (ta.take k)).toArray⟩ : ByteArray) ++ ⟨ta[k].text.toArray⟩ ++ ⟨#[32]⟩ = ⟨(spell (ta.take (k + 1))).toArray⟩) := Lib.hid (by rw [spell_step ta k hlt, show (⟨#[32]⟩ : ByteArray) = ⟨[32].toArray⟩ from rfl, cat_bytes, cat_bytes])
            have hx1 := hok.name
            have hx2 := hok.word
            have hbs : (spell (ta.take k)).length + ta[k].text.length + 1 ≤ 65536 := by
              have h1 : roomOf (ta.take (k + 1)) ≤ roomOf ta := by
                have h3 := roomOf_append (ta.take (k + 1)) (ta.drop (k + 1))
                rw [List.take_append_drop] at h3
                omega
              have h2 : (spell (ta.take (k + 1))).length = roomOf (ta.take (k + 1)) := spell_len _
              rw [spell_step ta k hlt, List.length_append, List.length_append] at h2
              have := HFA.out.2.2.2
              simp only [List.length_singleton] at h2
              omega
            have hb1 : (spell (ta.take k)).length ≤ 65536 := by omega
            have hb2 : ta[k].text.length ≤ 65536 := by omega
            have htl : ta[k].text.length ≤ 140737488355328 := by omega
            have CN : Hid (∀ W, LGlobs W → Calls Tryd.prog 23 #[.string ⟨ta[k].text.toArray⟩] W fun e w' => e = .returned (.bool (decide (ta[k].kd = 1))) ∧ w' = W) := Lib.hid fun W GW => (lname_any ta[k].text htl W GW).mono fun e w' h => ⟨by rw [h.1, hx1], h.2.symm⟩
            have CW : Hid (∀ W, LGlobs W → Calls Tryd.prog 21 #[.string ⟨ta[k].text.toArray⟩] W fun e w' => e = .returned (.bool (decide (ta[k].kd = 2))) ∧ w' = W) := Lib.hid fun W GW => (lword_any ta[k].text htl W GW).mono fun e w' h => ⟨by rw [h.1, hx2], h.2.symm⟩
            clear hc hO hB hok hx1 hx2 htl hbs d2 d3
            generalize ta[k].kd = kd at *
            generalize ta[k].text = tx at *
            generalize ta[k].line = ln at *
            generalize spell (ta.take k) = sp at *
            by_cases hk1 : kd = 1
            · have e1 : (kd == 1) = true := by simpa using hk1
              have e2 : (kd == 2) = false := by rw [hk1]; rfl
              rw [show decide (kd = 1) = true by simpa using hk1] at CN
              rw [show decide (kd = 2) = false by rw [hk1]; rfl] at CW
              clear hk1
              go_wp2_with fail
              go_quiet (first | (go_at_call 23; exact Calls.quiet_of_same (CN.out _ (HG2.out.below (below_drewN _ _ _)))) | (go_at_call 21; exact Calls.quiet_of_same (CW.out _ (HG2.out.below (below_drewN _ _ _)))))
              go_wp2_with fail
              go_roundw
              case rel => exact ⟨k + 1, by omega, by go_num, by rw [CE.out], HS.out.drewN _, HB2.out.trans (below_drewN _ _ _)⟩
              case measure => simp [intOf]; omega
            · by_cases hk2 : kd = 2
              · have e1 : (kd == 1) = false := by rw [hk2]; rfl
                have e2 : (kd == 2) = true := by simpa using hk2
                rw [show decide (kd = 1) = false by rw [hk2]; rfl] at CN
                rw [show decide (kd = 2) = true by simpa using hk2] at CW
                clear hk1 hk2
                go_wp2_with fail
                go_quiet (first | (go_at_call 23; exact Calls.quiet_of_same (CN.out _ (HG2.out.below (below_drewN _ _ _)))) | (go_at_call 21; exact Calls.quiet_of_same (CW.out _ (HG2.out.below (below_drewN _ _ _)))))
                go_wp2_with fail
                go_roundw
                case rel => exact ⟨k + 1, by omega, by go_num, by rw [CE.out], HS.out.drewN _, HB2.out.trans (below_drewN _ _ _)⟩
                case measure => simp [intOf]; omega
              · have e1 : (kd == 1) = false := by simpa using hk1
                have e2 : (kd == 2) = false := by simpa using hk2
                rw [show decide (kd = 1) = false by simpa using hk1] at CN
                rw [show decide (kd = 2) = false by simpa using hk2] at CW
                clear hk1 hk2
                go_wp2_with fail
                go_quiet (first | (go_at_call 23; exact Calls.quiet_of_same (CN.out _ (HG2.out.below (below_drewN _ _ _)))) | (go_at_call 21; exact Calls.quiet_of_same (CW.out _ (HG2.out.below (below_drewN _ _ _)))))
                go_wp2_with fail
                go_roundw
                case rel => exact ⟨k + 1, by omega, by go_num, by rw [CE.out], HS.out.drewN _, HB2.out.trans (below_drewN _ _ _)⟩
                case measure => simp [intOf]; omega
          · have HE : Hid (Toks wr w1.heap.size (.slice (some ⟨w1.heap.size, 0, none⟩) ta.length (ta.length + 2)) (ta.map f)) := Lib.hid (by
              have h := hO.out
              unfold HalfRow at h
              rw [List.take_of_length_le (by omega), List.drop_of_length_le (by omega), List.append_nil] at h
              refine toks_of_own ?_
              rw [List.length_map]
              exact h)
            have HB3 := Lib.hid (HB1.out.trans (hB.out.mono HB1.out.size))
            have HG3 := Lib.hid (HG0.out.below HB3.out)
            have CE2 := Lib.hid (show ta.take k = ta from List.take_of_length_le (by omega))
            clear hO hB
            go_wp2_with fail
            refine (C2.out _ (by rw [CE2.out]) wr HG3.out).mono ?_
            rintro e w4 ho
            obtain ⟨v4, rfl, ht4, hb4⟩ := ho.ok HJ.out
            have HT4 := Lib.hid ht4
            have HE := Lib.hid (HE.out.below hb4)
            have HB4 := Lib.hid (HB3.out.trans (hb4.mono HB3.out.size))
            clear ho ht4 hb4
            go_wp2_with fail
            have hml : (ta.map f).length ≤ 200000 := by rw [List.length_map]; omega
            refine (sameToks_eq v4 _ (ta.map f) _ _ w4 HT4.out HE.out hml).mono ?_
            rintro e w7 ⟨rfl, k7, rfl⟩
            have HB7 := Lib.hid (HB4.out.trans (below_drewN w.heap.size w4 k7))
            go_wp2_with fail
            refine (C5.out _ (HG0.out.below HB7.out)).mono ?_
            rintro e w9 ⟨rfl, hb9⟩
            have HB9 := Lib.hid (HB7.out.trans (hb9.mono HB7.out.size))
            clear hb9
            go_wp2_with fail
            go_ret
            exact ⟨rfl, HB9.out⟩
end Go.Proofs.YtdjpnaglkonjbaaDoor
