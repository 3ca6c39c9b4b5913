/-
  LexJoins walked.
-/
import Derived.Test.YtdjpnaglkonjbaaDoorLexSame
namespace Go.Proofs.YtdjpnaglkonjbaaDoor
open Go.RowKit

theorem join_bad {a b : List UInt8} {n : Nat} (h : Scans a 0 [] (.bad n)) : Scans (a ++ 10 :: b) 0 [] (.bad n) := by
  have := scan_join (a.length + 1) a 0 [] b (by omega)
  rw [h] at this
  exact this
theorem scan_from {b : List UInt8} (pre : List Tok) (d : Nat) {res : LexR} (h : Scans b 0 [] res) : Scans b d pre (match res with | .bad n => .bad (n + d) | .ok l => .ok (pre ++ l.map fun t => { t with line := t.line + d })) := by
  have h1 := scan_later d (b.length + 1) b 0 []
  rw [h, List.map_nil, Nat.zero_add] at h1
  have h2 := scan_acc pre (b.length + 1) b d []
  rw [h1, List.append_nil] at h2
  unfold Scans
  rw [h2]
  cases res <;> rfl
theorem join_bad2 {a b : List UInt8} {m : Nat} {la : List Tok} (h : Scans a 0 [] (.ok la)) (h2 : Scans b 0 [] (.bad m)) : Scans (a ++ 10 :: b) 0 [] (.bad (m + (feeds a + 1))) := by
  have := scan_join (a.length + 1) a 0 [] b (by omega)
  rw [h] at this
  refine this _ ?_
  have h3 := scan_from la (0 + feeds a + 1) h2
  rw [Nat.zero_add] at h3 ⊢
  exact h3
theorem join_ok {a b : List UInt8} {la lb : List Tok} (h : Scans a 0 [] (.ok la)) (h2 : Scans b 0 [] (.ok lb)) : Scans (a ++ 10 :: b) 0 [] (.ok (la ++ lb.map fun t => { t with line := t.line + (feeds a + 1) })) := by
  have := scan_join (a.length + 1) a 0 [] b (by omega)
  rw [h] at this
  refine this _ ?_
  have h3 := scan_from la (0 + feeds a + 1) h2
  rw [Nat.zero_add] at h3 ⊢
  exact h3
theorem feeds_le (l : List UInt8) : feeds l ≤ l.length := List.count_le_length
theorem lex_facts {l : List UInt8} {toks : List Tok} (h : Scans l 0 [] (.ok toks)) : toks.length ≤ l.length ∧ (∀ t ∈ toks, t.line ≤ l.length) ∧ (∀ t ∈ toks, TokOk t) ∧ roomOf toks ≤ 2 * l.length := by
  have h1 := scan_all (l.length + 1) l 0 [] toks (by omega) h (by simp)
  have h2 := scan_lines (l.length + 1) l 0 [] (by omega) (by simp)
  rw [h] at h2
  have := feeds_le l
  refine ⟨by simpa using h1.2.2, fun t ht => by have := h2 t ht; omega, h1.1, by simpa [roomOf] using h1.2.1⟩
theorem lex_bad_le {l : List UInt8} {n : Nat} (h : Scans l 0 [] (.bad n)) : n ≤ l.length := by
  have h2 := scan_lines (l.length + 1) l 0 [] (by omega) (by simp)
  rw [h] at h2
  have := feeds_le l
  have h3 : n ≤ 0 + feeds l := h2
  omega

set_option maxHeartbeats 4000000 in
set_option maxRecDepth 100000 in
theorem lexJoins_walk (a0 a1 : ByteArray) (s0 : a0.size ≤ 140737488355328) (s1 : a1.size ≤ 140737488355328) (w : World) (G : LGlobs w) :
    Calls Tryd.prog 10 #[.string a0, .string a1] w fun e w' => e = .returned (.bool true) ∧ Below w.heap.size w w' := by
  obtain ⟨la, rfl⟩ : ∃ l : List UInt8, a0 = ⟨l.toArray⟩ := ⟨a0.data.toList, by simp⟩
  obtain ⟨lb, rfl⟩ : ∃ l : List UInt8, a1 = ⟨l.toArray⟩ := ⟨a1.data.toList, by simp⟩
  have z0 : (⟨la.toArray⟩ : ByteArray).size = la.length := List.size_toArray
  have z1 : (⟨lb.toArray⟩ : ByteArray).size = lb.length := List.size_toArray
  rw [z0] at s0
  rw [z1] at s1
  clear z0 z1
  have C5 : Hid (∀ W, LGlobs W → Calls Tryd.prog 25 #[] W fun e w' => e = .returned (.bool true) ∧ Below W.heap.size W w') := Lib.hid fun W GW => lalive_any W GW
  have HG0 := Lib.hid G
  clear G
  by_cases hsz : 65536 ≤ la.length + lb.length
  · have hz : decide ((65536 : Int) ≤ (la.length : Int) + (lb.length : Int)) = true := by simp; omega
    go_enter Tryd.func10, Tryd.ntmps10
    go_wp2_with fail
    refine (C5.out _ HG0.out).mono ?_
    rintro e w4 ⟨rfl, hb4⟩
    go_wp2_with fail
    go_ret
    exact ⟨rfl, hb4⟩
  · have hla : la.length ≤ 65536 := by omega
    have hlb : lb.length ≤ 65536 := by omega
    have hj : (la ++ 10 :: lb).length ≤ 65536 := by rw [List.length_append, List.length_cons]; omega
    have hfl := feeds_le la
    have hz : decide ((65536 : Int) ≤ (la.length : Int) + (lb.length : Int)) = false := by simp; omega
    have C1 : Hid (∀ W, LGlobs W → Calls Tryd.prog 26 #[.string ⟨la.toArray⟩] W (TokOut la W)) := Lib.hid fun W GW => tokens_any la hla W GW
    have C2 : Hid (∀ W, LGlobs W → Calls Tryd.prog 26 #[.string ⟨lb.toArray⟩] W (TokOut lb W)) := Lib.hid fun W GW => tokens_any lb hlb W GW
    have C3 : Hid (∀ (s : ByteArray), s = ⟨(la ++ 10 :: lb).toArray⟩ → ∀ W, LGlobs W → Calls Tryd.prog 26 #[.string s] W (TokOut (la ++ 10 :: lb) W)) := Lib.hid fun s hs W GW => by subst hs; exact tokens_any _ hj W GW
    have C4 : Hid (∀ W, Calls Tryd.prog 27 #[.string ⟨la.toArray⟩] W fun e w' => e = .returned (.int .i64 (feeds la)) ∧ W = w') := Lib.hid fun W => feeds_any la s0 W
    have CE : Hid ((⟨la.toArray⟩ : ByteArray) ++ ⟨#[10]⟩ ++ ⟨lb.toArray⟩ = ⟨(la ++ 10 :: lb).toArray⟩) := Lib.hid (by rw [show (⟨#[10]⟩ : ByteArray) = ⟨[10].toArray⟩ from rfl, cat_bytes, cat_bytes, List.append_assoc]; rfl)
    have CE1 : Hid (True) := Lib.hid trivial
    have CE2 : Hid (True) := Lib.hid trivial
    generalize hfe : feeds la = fe at *
    rcases hA : scan (la.length + 1) la 0 [] with na | ta
    · have HA : Hid (Scans la 0 [] (.bad na)) := Lib.hid hA
      have HJ : Hid (Scans (la ++ 10 :: lb) 0 [] (.bad na)) := Lib.hid (join_bad hA)
      clear hA hfe
      rcases hB : scan (lb.length + 1) lb 0 [] with nb | tb
      · have HBB : Hid (Scans lb 0 [] (.bad nb)) := Lib.hid hB
        clear hB
        go_enter Tryd.func10, Tryd.ntmps10
        go_wp2_with fail
        refine (C1.out w HG0.out).mono ?_
        rintro e w1 ho
        obtain ⟨rfl, hb⟩ := ho.bad HA.out
        have HG1 := Lib.hid (HG0.out.below hb)
        have HB1 := Lib.hid hb
        clear hb ho
        go_wp2_with fail
        refine (C2.out w1 HG1.out).mono ?_
        rintro e w2 ho
        obtain ⟨rfl, hb⟩ := ho.bad HBB.out
        have HG2 := Lib.hid (HG1.out.below hb)
        have HB2 := Lib.hid (HB1.out.trans (hb.mono HB1.out.size))

        clear hb ho
        go_wp2_with fail
        refine (C3.out _ (by first | exact CE.out | (simp only [CE1.out, CE2.out])) w2 HG2.out).mono ?_
        rintro e w3 ho
        obtain ⟨rfl, hb⟩ := ho.bad HJ.out
        have HG3 := Lib.hid (HG2.out.below hb)
        have HB3 := Lib.hid (HB2.out.trans (hb.mono HB2.out.size))

        clear hb ho
        go_wp2_with fail
        refine (C4.out _).mono ?_
        rintro e w' ⟨rfl, rfl⟩
        go_wp2_with fail
        refine (C5.out _ HG3.out).mono ?_
        rintro e w4 ⟨rfl, hb4⟩
        have HB4 := Lib.hid (HB3.out.trans (hb4.mono HB3.out.size))
        clear hb4
        go_wp2_with fail
        go_ret
        exact ⟨rfl, HB4.out⟩
      · have HBB : Hid (Scans lb 0 [] (.ok tb)) := Lib.hid hB
        clear hB
        go_enter Tryd.func10, Tryd.ntmps10
        go_wp2_with fail
        refine (C1.out w HG0.out).mono ?_
        rintro e w1 ho
        obtain ⟨rfl, hb⟩ := ho.bad HA.out
        have HG1 := Lib.hid (HG0.out.below hb)
        have HB1 := Lib.hid hb
        clear hb ho
        go_wp2_with fail
        refine (C2.out w1 HG1.out).mono ?_
        rintro e w2 ho
        obtain ⟨v2, rfl, htv2, hb⟩ := ho.ok HBB.out
        have HG2 := Lib.hid (HG1.out.below hb)
        have HB2 := Lib.hid (HB1.out.trans (hb.mono HB1.out.size))
        clear htv2
        clear hb ho
        go_wp2_with fail
        refine (C3.out _ (by first | exact CE.out | (simp only [CE1.out, CE2.out])) w2 HG2.out).mono ?_
        rintro e w3 ho
        obtain ⟨rfl, hb⟩ := ho.bad HJ.out
        have HG3 := Lib.hid (HG2.out.below hb)
        have HB3 := Lib.hid (HB2.out.trans (hb.mono HB2.out.size))

        clear hb ho
        go_wp2_with fail
        refine (C4.out _).mono ?_
        rintro e w' ⟨rfl, rfl⟩
        go_wp2_with fail
        refine (C5.out _ HG3.out).mono ?_
        rintro e w4 ⟨rfl, hb4⟩
        have HB4 := Lib.hid (HB3.out.trans (hb4.mono HB3.out.size))
        clear hb4
        go_wp2_with fail
        go_ret
        exact ⟨rfl, HB4.out⟩
    · have HA : Hid (Scans la 0 [] (.ok ta)) := Lib.hid hA
      have HFA := Lib.hid (lex_facts hA)
      rcases hB : scan (lb.length + 1) lb 0 [] with nb | tb
      · have HBB : Hid (Scans lb 0 [] (.bad nb)) := Lib.hid hB
        have HJ : Hid (Scans (la ++ 10 :: lb) 0 [] (.bad (nb + (fe + 1)))) := Lib.hid (by rw [← hfe]; exact join_bad2 hA hB)
        have hnb := lex_bad_le hB
        clear hA hB hfe
        go_enter Tryd.func10, Tryd.ntmps10
        go_wp2_with fail
        refine (C1.out w HG0.out).mono ?_
        rintro e w1 ho
        obtain ⟨v1, rfl, htv1, hb⟩ := ho.ok HA.out
        have HG1 := Lib.hid (HG0.out.below hb)
        have HB1 := Lib.hid hb
        clear hb ho
        go_wp2_with fail
        refine (C2.out w1 HG1.out).mono ?_
        rintro e w2 ho
        obtain ⟨rfl, hb⟩ := ho.bad HBB.out
        have HG2 := Lib.hid (HG1.out.below hb)
        have HB2 := Lib.hid (HB1.out.trans (hb.mono HB1.out.size))
        clear htv1
        clear hb ho
        go_wp2_with fail
        refine (C3.out _ (by first | exact CE.out | (simp only [CE1.out, CE2.out])) w2 HG2.out).mono ?_
        rintro e w3 ho
        obtain ⟨rfl, hb⟩ := ho.bad HJ.out
        have HG3 := Lib.hid (HG2.out.below hb)
        have HB3 := Lib.hid (HB2.out.trans (hb.mono HB2.out.size))

        clear hb ho
        go_wp2_with fail
        refine (C4.out _).mono ?_
        rintro e w' ⟨rfl, rfl⟩
        go_wp2_with fail
        refine (C5.out _ HG3.out).mono ?_
        rintro e w4 ⟨rfl, hb4⟩
        have HB4 := Lib.hid (HB3.out.trans (hb4.mono HB3.out.size))
        clear hb4
        go_wp2_with fail
        go_ret
        exact ⟨rfl, HB4.out⟩
      · have HBB : Hid (Scans lb 0 [] (.ok tb)) := Lib.hid hB
        have HFB := Lib.hid (lex_facts hB)
        obtain ⟨tc, htc⟩ : ∃ tc, (tb.map fun t => { t with line := t.line + (fe + 1) }) = tc := ⟨_, rfl⟩
        have htl : tc.length = tb.length := by rw [← htc, List.length_map]
        have HJ : Hid (Scans (la ++ 10 :: lb) 0 [] (.ok (ta ++ tc))) := Lib.hid (by rw [← htc, ← hfe]; exact join_ok hA hB)
        obtain ⟨i0, hi0, hz0, hz1, hz2⟩ := info_parts tokInfo
        have HI0 := Lib.hid hi0
        have HZ0 := Lib.hid hz0
        have HZ1 := Lib.hid hz1
        have HZ2 := Lib.hid hz2
        have CL : Hid (∀ (v : Value) (B : Nat) (W : World) (i : Int), i = (fe : Int) + 1 → Toks W B v tb → Calls Tryd.prog 30 #[v, .int .i64 i] W fun e w' => e = .returned (.slice (some ⟨W.heap.size, 0, none⟩) tb.length (tb.length + 2)) ∧
            w'.ownsRow W.heap.size 48 4 (.slice (some ⟨W.heap.size, 0, none⟩) tb.length (tb.length + 2)) tb.length (tc.flatMap Tok.cells) ∧ Below W.heap.size W w') := Lib.hid fun v B W i hi hT => by
          have hi : i = ((fe + 1 : Nat) : Int) := by omega
          subst hi
          have := later_any v tb B (fe + 1) W hT (by have := HFB.out.1; omega) (by omega) (fun t ht => by have := HFB.out.2.1 t ht; omega)
          rw [htc] at this
          exact this
        have HTL := Lib.hid htl
        have HLA : Hid (ta.length ≤ 65536) := Lib.hid (by have := HFA.out.1; omega)
        have HLB : Hid (tb.length ≤ 65536) := Lib.hid (by have := HFB.out.1; omega)
        clear hA hB hfe htc hi0 hz0 hz1 hz2 htl
        go_enter Tryd.func10, Tryd.ntmps10
        go_wp2_with fail
        refine (C1.out w HG0.out).mono ?_
        rintro e w1 ho
        obtain ⟨v1, rfl, htv1, hb⟩ := ho.ok HA.out
        have HG1 := Lib.hid (HG0.out.below hb)
        have HB1 := Lib.hid hb
        clear hb ho
        go_wp2_with fail
        refine (C2.out w1 HG1.out).mono ?_
        rintro e w2 ho
        obtain ⟨v2, rfl, htv2, hb⟩ := ho.ok HBB.out
        have HG2 := Lib.hid (HG1.out.below hb)
        have HB2 := Lib.hid (HB1.out.trans (hb.mono HB1.out.size))
        have HT1 := Lib.hid (htv1.below hb); have HT2 := Lib.hid htv2; clear htv1 htv2
        clear hb ho
        go_wp2_with fail
        refine (C3.out _ (by first | exact CE.out | (simp only [CE1.out, CE2.out])) w2 HG2.out).mono ?_
        rintro e w3 ho
        obtain ⟨v3, rfl, htv3, hb⟩ := ho.ok HJ.out
        have HG3 := Lib.hid (HG2.out.below hb)
        have HB3 := Lib.hid (HB2.out.trans (hb.mono HB2.out.size))
        have HT1 := Lib.hid (HT1.out.below hb); have HT2 := Lib.hid (HT2.out.below hb); have HT3 := Lib.hid htv3; clear htv3
        clear hb ho
        go_wp2_with fail
        refine (C4.out _).mono ?_
        rintro e w' ⟨rfl, rfl⟩
        go_wp2_with fail
        refine (twinToks_any v1 ta _ w3 HT1.out HLA.out).mono ?_
        rintro e w4 ⟨rfl, ho4, hb4⟩
        have HO4 := Lib.hid ho4
        have HB4 := Lib.hid hb4
        have HT2 := Lib.hid (HT2.out.below hb4)
        clear ho4 hb4
        go_wp2_with fail
        refine (CL.out v2 _ w4 _ rfl HT2.out).mono ?_
        rintro e w5 ⟨rfl, ho5, hb5⟩
        have HO4 := Lib.hid (own_below HO4.out hb5)
        have HO5 := Lib.hid ho5
        have HB5 := Lib.hid (HB4.out.trans (hb5.mono HB4.out.size))
        have HN : Hid (∀ j u, (tc.flatMap Tok.cells)[j]? = some u → w5.cell? ((⟨w4.heap.size, 0, none⟩ : Addr).add j) = some u) := Lib.hid (ho5.cells rfl)
        have HL : Hid ((tc.flatMap Tok.cells).length = tb.length * 4) := Lib.hid (by rw [flat_len, HTL.out])
        clear ho5 hb5
        have HSz := Lib.hid HB5.out.size
        go_wp2_with ((refine wpList_append_own_w (by rfl) (.tmp 87) (.tmp 90) 38 rfl w3.heap.size 48 i0 _ 4 40 Tryd.underlying38 HI0.out HZ0.out HZ1.out HZ2.out rfl (by decide) (.slice (some ⟨w3.heap.size, 0, none⟩) ta.length (ta.length + 2)) ta.length _ rfl HO4.out ⟨w4.heap.size, 0, none⟩ tb.length (tb.length + 2) (tc.flatMap Tok.cells) rfl HL.out HN.out (flat_one tc) (by have := HLA.out; have := HLB.out; simp only [maxLen]; omega) (by have := HLA.out; have := HLB.out; omega) HSz.out ?_; intro v6 w6 ho6 hg6))
        have HB6 : Hid (Below w3.heap.size w3 w6) := Lib.hid (HB5.out.grown hg6 HB5.out.size (fun k h => by have h9 : w3.heap.size = k := (by simpa [Value.ownBlock] using h); omega))
        have HT6 : Hid (Toks w6 w3.heap.size v6 (ta ++ tc)) := Lib.hid (toks_of_own (by
          rw [List.flatMap_append, List.length_append, HTL.out]
          exact ho6))
        clear ho6 hg6
        refine (sameToks_eq v3 v6 (ta ++ tc) _ _ w6 (HT3.out.below HB6.out) HT6.out (by have := HLA.out; have := HLB.out; have := HTL.out; rw [List.length_append]; omega)).mono ?_
        rintro e w7 ⟨rfl, k7, rfl⟩
        have HB7 := Lib.hid (HB6.out.trans (below_drewN w3.heap.size w6 k7))
        have HG3 := Lib.hid (HG3.out.below HB7.out)
        have HB3 := Lib.hid (HB3.out.trans (HB7.out.mono HB3.out.size))
        go_wp2_with fail
        refine (C5.out _ HG3.out).mono ?_
        rintro e w4 ⟨rfl, hb4⟩
        have HB4 := Lib.hid (HB3.out.trans (hb4.mono HB3.out.size))
        clear hb4
        go_wp2_with fail
        go_ret
        exact ⟨rfl, HB4.out⟩
end Go.Proofs.YtdjpnaglkonjbaaDoor
