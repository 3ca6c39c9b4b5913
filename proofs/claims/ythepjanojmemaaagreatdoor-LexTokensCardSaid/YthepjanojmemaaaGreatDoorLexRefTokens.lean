/-
  The document's Tokens walked.
-/
import Derived.Test.YthepjanojmemaaaGreatDoorLexRefOne
import Derived.Test.YthepjanojmemaaaGreatDoorLexUni
import Derived.Test.YthepjanojmemaaaGreatDoorCopyRow
set_option linter.unusedVariables false
set_option linter.unusedSimpArgs false
namespace Go.Proofs.YthepjanojmemaaaGreatDoor
open Go.RowKit

theorem drop_cons_at {l : List UInt8} {k : Nat} (h : k < l.length) : l.drop k = l[k] :: l.drop (k + 1) := List.drop_eq_getElem_cons h
/-- what a remark leaves -/
theorem remark_at {l : List UInt8} {k : Nat} {line : Nat} {acc : List Tok} {res : LexR} (h : k + 1 < l.length) (h1 : l[k] = 47) (h2 : l[k + 1] = 47) (hS : Scans (l.drop k) line acc res) :
    Scans ((l.drop k).dropWhile (· != 10)) line acc res ∧ ((l.drop k).dropWhile (· != 10)).length ≤ l.length - k - 2 := by
  have e : l.drop k = 47 :: 47 :: l.drop (k + 2) := by
    rw [drop_cons_at (by omega), drop_cons_at h, h1, h2]
  rw [e] at hS
  have hS := hS.remark
  have e2 : (l.drop k).dropWhile (· != 10) = (l.drop (k + 2)).dropWhile (· != 10) := by rw [e]; rfl
  rw [e2]
  refine ⟨hS, Nat.le_trans (dropWhile_le _) ?_⟩
  rw [List.length_drop]; omega
theorem oneOk_scans {l : List UInt8} {k : Nat} {line : Nat} {acc : List Tok} {res : LexR} {kd n : Int} {t : List UInt8} (h : k < l.length) (hS : Scans (l.drop k) line acc res) (h10 : l[k] ≠ 10) (hsp : spaceB l[k] = false)
    (hrem : ¬ (l[k] = 47 ∧ ∃ h' : k + 1 < l.length, l[k + 1] = 47)) (hO : OneOk (l.drop k) kd t n) :
    (t = [] → res = .bad line) ∧ (t ≠ [] → Scans (l.drop (k + t.length)) line (acc ++ [⟨kd, t, n, line⟩]) res ∧ 0 < t.length ∧ k + t.length ≤ l.length) := by
  have e := drop_cons_at h
  unfold OneOk at hO
  rw [e] at hS hO
  have hT := hS.tok h10 hsp (by
    rintro ⟨h1, h2⟩
    refine hrem ⟨h1, ?_⟩
    by_cases hlt : k + 1 < l.length
    · rw [drop_cons_at hlt] at h2
      exact ⟨hlt, by injection h2⟩
    · rw [List.drop_of_length_le (by omega)] at h2; cases h2)
  cases hx : tokAt (l[k] :: l.drop (k + 1)) with
  | none =>
    rw [hx] at hT hO
    exact ⟨fun _ => hT, fun h => absurd hO h⟩
  | some x =>
    rw [hx] at hT hO
    have hO : x = (kd, t, n) := hO
    subst hO
    obtain ⟨p1, p2, -⟩ := tokAt_pos hx
    refine ⟨fun h => by rw [h] at p1; simp at p1, fun _ => ⟨?_, p1, ?_⟩⟩
    · have hT : Scans ((l[k] :: l.drop (k + 1)).drop t.length) line (acc ++ [⟨kd, t, n, line⟩]) res := hT
      rw [← e, List.drop_drop] at hT
      exact hT
    · rw [← e, List.length_drop] at p2; omega


set_option maxHeartbeats 8000000 in
set_option maxRecDepth 100000 in
theorem rtokens_u (s : List UInt8) (hs : s.length ≤ 140737488355328) (w : World) :
    Calls Tryz.prog 5 #[.string ⟨s.toArray⟩] w (TokU s w) := by
  by_cases hbig : 65536 < s.length
  · have HE := Lib.hid (tokU_none (w := w) (n := 0) (c := 3) (lexV_big hbig) (Below.refl _ w))
    go_enter Tryz.func5, Tryz.ntmps5
    go_wp2_with fail
    go_ret3
    exact HE.out
  · obtain ⟨i0, hi0, hz0, hz1, hz2⟩ := info_parts tokInfo
    obtain ⟨res, hres⟩ : ∃ res, Scans s 0 [] res := ⟨_, rfl⟩
    have HRes := Lib.hid hres
    have h0 : Hid (Scans (s.drop 0) 0 [] res) := Lib.hid hres
    clear hres
    go_enter Tryz.func5, Tryz.ntmps5
    go_wp2_with fail
    go_loopw [5, 6, 7] (fun lv ln iv wr => ∃ (k line : Nat) (toks : List Tok) (v : Value), lv = v ∧ ln = .int .i64 line ∧ iv = .int .i64 k ∧ k ≤ s.length ∧ line ≤ k ∧ toks.length ≤ k ∧ Hid (Scans (s.drop k) line toks res) ∧ Hid (wr.ownsRow w.heap.size 67 4 v toks.length (toks.flatMap Tok.cells)) ∧ Hid (Below w.heap.size w wr)) (fun _ _ iv _ => s.length - (intOf iv).toNat)
    case atStart => exact ⟨0, 0, [], _, rfl, rfl, rfl, by omega, by omega, by simp, h0, Lib.hid (World.ownsRow_nil _ _ _ _), Lib.hid (Below.refl _ _)⟩
    case round =>
      obtain ⟨k, line, toks, v, rfl, rfl, rfl, hk, hlk, htk, hSC, HOWN, HB⟩ := hrel
      clear h0
      by_cases hlt : k < s.length
      · have hget : ∀ h, ((⟨s.toArray⟩ : ByteArray)[k]'h) = s[k]'hlt := fun h => rfl
        have wk1 : IntKind.i64.wrap ((k : Int) + 1) = k + 1 := by rw [IntKind.wrap_i64]; omega
        have wl1 : IntKind.i64.wrap ((line : Int) + 1) = line + 1 := by rw [IntKind.wrap_i64]; omega
        by_cases h10 : s[k] = 10
        · have HSC : Hid (Scans (s.drop (k + 1)) (line + 1) toks res) := Lib.hid (by
            have h := hSC.out
            rw [drop_cons_at hlt, h10] at h
            exact h.feed)
          rw [h10] at hget
          clear hSC h10
          go_wp2_with fail
          go_roundw
          case rel => exact ⟨k + 1, line + 1, toks, _, rfl, by go_num, by go_num, by omega, by omega, by omega, HSC, HOWN, HB⟩
          case measure => simp [intOf]; omega
        · cases hsp : spaceB s[k]
          · by_cases h47 : s[k] = 47
            · by_cases hk1 : k + 1 < s.length
              · have hget1 : ∀ h, ((⟨s.toArray⟩ : ByteArray)[k + 1]'h) = s[k + 1]'hk1 := fun h => rfl
                have d1 : decide ((k : Int) + 1 < (s.length : Int)) = true := by simp; omega
                by_cases h472 : s[k + 1] = 47
                · obtain ⟨hs2, hl2⟩ := remark_at hk1 h47 h472 hSC.out
                  obtain ⟨D, hD⟩ : ∃ D, (s.drop k).dropWhile (· != 10) = D := ⟨_, rfl⟩
                  rw [hD] at hs2 hl2
                  have HSC := Lib.hid hs2
                  have HD := Lib.hid hD
                  have HL2 := Lib.hid hl2
                  rw [h47] at hget
                  rw [h472] at hget1
                  clear hSC hs2 hl2 hD h10 hsp h47 h472
                  go_wp2_with fail
                  go_loop [7] (fun n => ∃ j : Nat, j ≤ s.length ∧ n = .int .i64 j ∧ Hid ((s.drop j).dropWhile (· != 10) = D)) (fun n => s.length - (intOf n).toNat)
                  case atStart => exact ⟨k, by omega, by go_num, HD⟩
                  case round =>
                    obtain ⟨j, hj, rfl, hH⟩ := hrel
                    have hjk : Hid (s.drop j = D → j ≤ s.length ∧ k < j) := Lib.hid (fun h => by
                      have := congrArg List.length h
                      rw [List.length_drop] at this
                      have := HL2.out
                      omega)
                    clear hget hget1
                    by_cases hjl : j < s.length
                    · have hget2 : ∀ h, ((⟨s.toArray⟩ : ByteArray)[j]'h) = s[j]'hjl := fun h => rfl
                      have wj1 : IntKind.i64.wrap ((j : Int) + 1) = j + 1 := by rw [IntKind.wrap_i64]; omega
                      have hcons := drop_cons_at hjl
                      by_cases hj10 : s[j] = 10
                      · have HJ : Hid (s.drop j = D) := Lib.hid (by
                          have h := hH.out
                          rw [hcons, hj10, List.dropWhile_cons_of_neg (by simp)] at h
                          rw [hcons, hj10]; exact h)
                        have HSC2 : Hid (Scans (s.drop j) line toks res) := Lib.hid (by rw [HJ.out]; exact HSC.out)
                        obtain ⟨-, hkj⟩ := hjk.out HJ.out
                        rw [hj10] at hget2
                        clear hH HJ hjk hcons hj10 HSC HD HL2
                        go_wp2_with fail
                        go_roundw
                        case rel => exact ⟨j, line, toks, _, rfl, rfl, by go_num, by omega, by omega, by omega, HSC2, HOWN, HB⟩
                        case measure => simp [intOf]; omega
                      · have HJ : Hid ((s.drop (j + 1)).dropWhile (· != 10) = D) := Lib.hid (by
                          have h := hH.out
                          rw [hcons, List.dropWhile_cons_of_pos (by simpa using hj10)] at h
                          exact h)
                        have q : ((s[j].toNat : Int) != 10) = true := by
                          have := u8_ne (d := 10) (by decide) hj10
                          simpa [bne] using this
                        clear hH hjk hcons hj10
                        generalize s[j] = c at *
                        go_wp2_with fail
                        go_round
                        case rel => exact ⟨j + 1, by omega, by go_num, HJ⟩
                        case measure => simp [intOf]; omega
                    · have HJ : Hid (s.drop j = D) := Lib.hid (by
                        have h := hH.out
                        rw [List.drop_of_length_le (by omega)] at h ⊢
                        exact h)
                      have HSC2 : Hid (Scans (s.drop j) line toks res) := Lib.hid (by rw [HJ.out]; exact HSC.out)
                      obtain ⟨-, hkj⟩ := hjk.out HJ.out
                      have dj : decide ((j : Int) < (s.length : Int)) = false := by simpa using hjl
                      clear hH HJ hjk HSC HD HL2
                      go_wp2_with fail
                      go_roundw
                      case rel => exact ⟨j, line, toks, _, rfl, rfl, by go_num, by omega, by omega, by omega, HSC2, HOWN, HB⟩
                      case measure => simp [intOf]; omega
                · have e6 : ((s[k + 1].toNat : Int) == 47) = false := u8_ne (d := 47) (by decide) h472
                  have hx := extract_drop s k
                  have HO1 := Lib.hid (fun kd t n => oneOk_scans (kd := kd) (t := t) (n := n) hlt hSC.out h10 hsp (fun h => h472 h.2.2))
                  have CO := Lib.hid (fun W => rone_any (s.drop k) (by rw [List.length_drop]; omega) (by rw [List.length_drop]; omega) W)
                  have e1 : ((s[k].toNat : Int) == 10) = false := u8_ne (d := 10) (by decide) h10
                  have e2 : ((s[k].toNat : Int) == 32) = false := u8_ne (d := 32) (by decide) (by intro h; rw [h] at hsp; cases hsp)
                  have e3 : ((s[k].toNat : Int) == 9) = false := u8_ne (d := 9) (by decide) (by intro h; rw [h] at hsp; cases hsp)
                  have e4 : ((s[k].toNat : Int) == 13) = false := u8_ne (d := 13) (by decide) (by intro h; rw [h] at hsp; cases hsp)
                  have e5 : ((s[k].toNat : Int) == 47) = true := by rw [h47]; rfl
                  clear h10 hsp hSC
                  clear h47 h472
                  generalize s[k] = c at *
                  go_wp2_with fail
                  refine (CO.out _).mono ?_
                  rintro e w1 ⟨kd, t, n, rfl, hok, hb⟩
                  have HR := Lib.hid (HO1.out kd t n hok)
                  have HB1 := Lib.hid (HB.out.trans (hb.mono HB.out.size))
                  have HOWN1 := Lib.hid (own_belowI HOWN.out hb)
                  clear CO HO1 hok hb HB HOWN
                  by_cases ht : t = []
                  · subst ht
                    have HE := Lib.hid (HR.out.1 rfl)
                    clear HR
                    go_wp2_with fail
                    go_ret3
                    exact tokU_none (c := 5) (lexV_bad hbig (by rw [← HE.out]; exact HRes.out)) (HB1.out.alloc HB1.out.size _)
                  · have q : (t == []) = false := by simpa using ht
                    have q2 : t.isEmpty = false := by simpa using ht
                    obtain ⟨hsc, hp, hle⟩ := HR.out.2 ht
                    have HSC := Lib.hid hsc
                    have wk : IntKind.i64.wrap ((k : Int) + (t.length : Int)) = k + t.length := by rw [IntKind.wrap_i64]; omega
                    clear HR ht hsc
                    go_wp2_with (at_builtin; refine wpList_append_own _ rfl _ _ 22 rfl w.heap.size 67 i0 _ 4 40 Tryz.underlying22 hi0 hz0 hz1 hz2 rfl (by decide) _ _ _ rfl ((HOWN1.out.alloc _).alloc _) ⟨w1.heap.size + 1, 0, none⟩ 1 1 [.int .u8 kd, .string ⟨t.toArray⟩, .int .i64 n, .int .i64 line] rfl rfl ?c1 ?c2 ?c3 ?c4 ?c5 ?_)
                    case c1 =>
                      have h := heap_alloc_new (w1.alloc (.cells #[.int .u8 kd, .string ⟨t.toArray⟩, .int .i64 n, .int .i64 line] 67 (0, 0))) (.cells #[.int .u8 kd, .string ⟨t.toArray⟩, .int .i64 n, .int .i64 line] 67 (0, 0))
                      exact World.news_of_block (by simpa using h)
                    case c2 => simp [Value.oneCell']
                    case c3 => unfold maxLen; omega
                    case c4 => omega
                    case c5 => have := HB1.out.size; simp; omega
                    intro v' w3 hown' hgrow hnil'
                    have HB3 := Lib.hid (((HB1.out.alloc HB1.out.size _).alloc (by have := HB1.out.size; simp; omega) _).grown hgrow (by have := HB1.out.size; simp; omega) (fun kk h => (HOWN1.out.lt kk h).1))
                    have HOWN3 : Hid (w3.ownsRow w.heap.size 67 4 v' (toks ++ [(⟨kd, t, n, line⟩ : Tok)]).length ((toks ++ [(⟨kd, t, n, line⟩ : Tok)]).flatMap Tok.cells)) := Lib.hid (by
                      rw [List.length_append, List.flatMap_append]; exact hown')
                    have hc1 : w3.cell? ⟨w1.heap.size, 1, none⟩ = some (.string ⟨t.toArray⟩) := by
                      refine hgrow.cell ?_ ?_
                      · have hA := heap_alloc_new w1 (.cells #[.int .u8 kd, .string ⟨t.toArray⟩, .int .i64 n, .int .i64 line] 67 (0, 0))
                        have hB := ((Below.refl (w1.heap.size + 1) (w1.alloc (.cells #[.int .u8 kd, .string ⟨t.toArray⟩, .int .i64 n, .int .i64 line] 67 (0, 0)))).alloc (by simp) (.cells #[.int .u8 kd, .string ⟨t.toArray⟩, .int .i64 n, .int .i64 line] 67 (0, 0))).block w1.heap.size (by omega)
                        exact cell_blk (hB.trans hA) 1
                      · intro e
                        have := (HOWN1.out.lt w1.heap.size e.symm).2
                        omega
                    clear hown' hgrow hnil' HOWN1 HB1
                    go_wp2_with fail
                    go_roundw
                    case rel => exact ⟨k + t.length, line, _, v', rfl, by go_num, by go_num, hle, by omega, by rw [List.length_append]; simp; omega, HSC, HOWN3, HB3⟩
                    case measure => simp [intOf]; omega
              · have d1 : decide ((k : Int) + 1 < (s.length : Int)) = false := by simp; omega
                have hx := extract_drop s k
                have HO1 := Lib.hid (fun kd t n => oneOk_scans (kd := kd) (t := t) (n := n) hlt hSC.out h10 hsp (fun h => hk1 h.2.1))
                have CO := Lib.hid (fun W => rone_any (s.drop k) (by rw [List.length_drop]; omega) (by rw [List.length_drop]; omega) W)
                have e1 : ((s[k].toNat : Int) == 10) = false := u8_ne (d := 10) (by decide) h10
                have e2 : ((s[k].toNat : Int) == 32) = false := u8_ne (d := 32) (by decide) (by intro h; rw [h] at hsp; cases hsp)
                have e3 : ((s[k].toNat : Int) == 9) = false := u8_ne (d := 9) (by decide) (by intro h; rw [h] at hsp; cases hsp)
                have e4 : ((s[k].toNat : Int) == 13) = false := u8_ne (d := 13) (by decide) (by intro h; rw [h] at hsp; cases hsp)
                have e5 : ((s[k].toNat : Int) == 47) = true := by rw [h47]; rfl
                clear h10 hsp hSC
                clear h47
                generalize s[k] = c at *
                go_wp2_with fail
                refine (CO.out _).mono ?_
                rintro e w1 ⟨kd, t, n, rfl, hok, hb⟩
                have HR := Lib.hid (HO1.out kd t n hok)
                have HB1 := Lib.hid (HB.out.trans (hb.mono HB.out.size))
                have HOWN1 := Lib.hid (own_belowI HOWN.out hb)
                clear CO HO1 hok hb HB HOWN
                by_cases ht : t = []
                · subst ht
                  have HE := Lib.hid (HR.out.1 rfl)
                  clear HR
                  go_wp2_with fail
                  go_ret3
                  exact tokU_none (c := 5) (lexV_bad hbig (by rw [← HE.out]; exact HRes.out)) (HB1.out.alloc HB1.out.size _)
                · have q : (t == []) = false := by simpa using ht
                  have q2 : t.isEmpty = false := by simpa using ht
                  obtain ⟨hsc, hp, hle⟩ := HR.out.2 ht
                  have HSC := Lib.hid hsc
                  have wk : IntKind.i64.wrap ((k : Int) + (t.length : Int)) = k + t.length := by rw [IntKind.wrap_i64]; omega
                  clear HR ht hsc
                  go_wp2_with (at_builtin; refine wpList_append_own _ rfl _ _ 22 rfl w.heap.size 67 i0 _ 4 40 Tryz.underlying22 hi0 hz0 hz1 hz2 rfl (by decide) _ _ _ rfl ((HOWN1.out.alloc _).alloc _) ⟨w1.heap.size + 1, 0, none⟩ 1 1 [.int .u8 kd, .string ⟨t.toArray⟩, .int .i64 n, .int .i64 line] rfl rfl ?c1 ?c2 ?c3 ?c4 ?c5 ?_)
                  case c1 =>
                    have h := heap_alloc_new (w1.alloc (.cells #[.int .u8 kd, .string ⟨t.toArray⟩, .int .i64 n, .int .i64 line] 67 (0, 0))) (.cells #[.int .u8 kd, .string ⟨t.toArray⟩, .int .i64 n, .int .i64 line] 67 (0, 0))
                    exact World.news_of_block (by simpa using h)
                  case c2 => simp [Value.oneCell']
                  case c3 => unfold maxLen; omega
                  case c4 => omega
                  case c5 => have := HB1.out.size; simp; omega
                  intro v' w3 hown' hgrow hnil'
                  have HB3 := Lib.hid (((HB1.out.alloc HB1.out.size _).alloc (by have := HB1.out.size; simp; omega) _).grown hgrow (by have := HB1.out.size; simp; omega) (fun kk h => (HOWN1.out.lt kk h).1))
                  have HOWN3 : Hid (w3.ownsRow w.heap.size 67 4 v' (toks ++ [(⟨kd, t, n, line⟩ : Tok)]).length ((toks ++ [(⟨kd, t, n, line⟩ : Tok)]).flatMap Tok.cells)) := Lib.hid (by
                    rw [List.length_append, List.flatMap_append]; exact hown')
                  have hc1 : w3.cell? ⟨w1.heap.size, 1, none⟩ = some (.string ⟨t.toArray⟩) := by
                    refine hgrow.cell ?_ ?_
                    · have hA := heap_alloc_new w1 (.cells #[.int .u8 kd, .string ⟨t.toArray⟩, .int .i64 n, .int .i64 line] 67 (0, 0))
                      have hB := ((Below.refl (w1.heap.size + 1) (w1.alloc (.cells #[.int .u8 kd, .string ⟨t.toArray⟩, .int .i64 n, .int .i64 line] 67 (0, 0)))).alloc (by simp) (.cells #[.int .u8 kd, .string ⟨t.toArray⟩, .int .i64 n, .int .i64 line] 67 (0, 0))).block w1.heap.size (by omega)
                      exact cell_blk (hB.trans hA) 1
                    · intro e
                      have := (HOWN1.out.lt w1.heap.size e.symm).2
                      omega
                  clear hown' hgrow hnil' HOWN1 HB1
                  go_wp2_with fail
                  go_roundw
                  case rel => exact ⟨k + t.length, line, _, v', rfl, by go_num, by go_num, hle, by omega, by rw [List.length_append]; simp; omega, HSC, HOWN3, HB3⟩
                  case measure => simp [intOf]; omega
            · skip
              have hx := extract_drop s k
              have HO1 := Lib.hid (fun kd t n => oneOk_scans (kd := kd) (t := t) (n := n) hlt hSC.out h10 hsp (fun h => h47 h.1))
              have CO := Lib.hid (fun W => rone_any (s.drop k) (by rw [List.length_drop]; omega) (by rw [List.length_drop]; omega) W)
              have e1 : ((s[k].toNat : Int) == 10) = false := u8_ne (d := 10) (by decide) h10
              have e2 : ((s[k].toNat : Int) == 32) = false := u8_ne (d := 32) (by decide) (by intro h; rw [h] at hsp; cases hsp)
              have e3 : ((s[k].toNat : Int) == 9) = false := u8_ne (d := 9) (by decide) (by intro h; rw [h] at hsp; cases hsp)
              have e4 : ((s[k].toNat : Int) == 13) = false := u8_ne (d := 13) (by decide) (by intro h; rw [h] at hsp; cases hsp)
              have e5 : ((s[k].toNat : Int) == 47) = false := u8_ne (d := 47) (by decide) h47
              clear h10 hsp hSC
              clear h47
              generalize s[k] = c at *
              go_wp2_with fail
              refine (CO.out _).mono ?_
              rintro e w1 ⟨kd, t, n, rfl, hok, hb⟩
              have HR := Lib.hid (HO1.out kd t n hok)
              have HB1 := Lib.hid (HB.out.trans (hb.mono HB.out.size))
              have HOWN1 := Lib.hid (own_belowI HOWN.out hb)
              clear CO HO1 hok hb HB HOWN
              by_cases ht : t = []
              · subst ht
                have HE := Lib.hid (HR.out.1 rfl)
                clear HR
                go_wp2_with fail
                go_ret3
                exact tokU_none (c := 5) (lexV_bad hbig (by rw [← HE.out]; exact HRes.out)) (HB1.out.alloc HB1.out.size _)
              · have q : (t == []) = false := by simpa using ht
                have q2 : t.isEmpty = false := by simpa using ht
                obtain ⟨hsc, hp, hle⟩ := HR.out.2 ht
                have HSC := Lib.hid hsc
                have wk : IntKind.i64.wrap ((k : Int) + (t.length : Int)) = k + t.length := by rw [IntKind.wrap_i64]; omega
                clear HR ht hsc
                go_wp2_with (at_builtin; refine wpList_append_own _ rfl _ _ 22 rfl w.heap.size 67 i0 _ 4 40 Tryz.underlying22 hi0 hz0 hz1 hz2 rfl (by decide) _ _ _ rfl ((HOWN1.out.alloc _).alloc _) ⟨w1.heap.size + 1, 0, none⟩ 1 1 [.int .u8 kd, .string ⟨t.toArray⟩, .int .i64 n, .int .i64 line] rfl rfl ?c1 ?c2 ?c3 ?c4 ?c5 ?_)
                case c1 =>
                  have h := heap_alloc_new (w1.alloc (.cells #[.int .u8 kd, .string ⟨t.toArray⟩, .int .i64 n, .int .i64 line] 67 (0, 0))) (.cells #[.int .u8 kd, .string ⟨t.toArray⟩, .int .i64 n, .int .i64 line] 67 (0, 0))
                  exact World.news_of_block (by simpa using h)
                case c2 => simp [Value.oneCell']
                case c3 => unfold maxLen; omega
                case c4 => omega
                case c5 => have := HB1.out.size; simp; omega
                intro v' w3 hown' hgrow hnil'
                have HB3 := Lib.hid (((HB1.out.alloc HB1.out.size _).alloc (by have := HB1.out.size; simp; omega) _).grown hgrow (by have := HB1.out.size; simp; omega) (fun kk h => (HOWN1.out.lt kk h).1))
                have HOWN3 : Hid (w3.ownsRow w.heap.size 67 4 v' (toks ++ [(⟨kd, t, n, line⟩ : Tok)]).length ((toks ++ [(⟨kd, t, n, line⟩ : Tok)]).flatMap Tok.cells)) := Lib.hid (by
                  rw [List.length_append, List.flatMap_append]; exact hown')
                have hc1 : w3.cell? ⟨w1.heap.size, 1, none⟩ = some (.string ⟨t.toArray⟩) := by
                  refine hgrow.cell ?_ ?_
                  · have hA := heap_alloc_new w1 (.cells #[.int .u8 kd, .string ⟨t.toArray⟩, .int .i64 n, .int .i64 line] 67 (0, 0))
                    have hB := ((Below.refl (w1.heap.size + 1) (w1.alloc (.cells #[.int .u8 kd, .string ⟨t.toArray⟩, .int .i64 n, .int .i64 line] 67 (0, 0)))).alloc (by simp) (.cells #[.int .u8 kd, .string ⟨t.toArray⟩, .int .i64 n, .int .i64 line] 67 (0, 0))).block w1.heap.size (by omega)
                    exact cell_blk (hB.trans hA) 1
                  · intro e
                    have := (HOWN1.out.lt w1.heap.size e.symm).2
                    omega
                clear hown' hgrow hnil' HOWN1 HB1
                go_wp2_with fail
                go_roundw
                case rel => exact ⟨k + t.length, line, _, v', rfl, by go_num, by go_num, hle, by omega, by rw [List.length_append]; simp; omega, HSC, HOWN3, HB3⟩
                case measure => simp [intOf]; omega
          · have HSC : Hid (Scans (s.drop (k + 1)) line toks res) := Lib.hid (by
              have h := hSC.out
              rw [drop_cons_at hlt] at h
              exact h.space h10 hsp)
            have hcs : s[k] = 32 ∨ s[k] = 9 ∨ s[k] = 13 := by
              unfold spaceB at hsp
              simpa [or_assoc] using hsp
            clear hSC h10 hsp
            rcases hcs with h | h | h
            all_goals
              rw [h] at hget
              clear h
              go_wp2_with fail
              go_roundw
              case rel => exact ⟨k + 1, line, toks, _, rfl, rfl, by go_num, by omega, by omega, by omega, HSC, HOWN, HB⟩
              case measure => simp [intOf]; omega
      · have HE := Lib.hid (show res = .ok toks by
          have h := hSC.out
          rw [List.drop_of_length_le (by omega)] at h
          exact h.ends)
        clear hSC
        go_wp2_with fail
        go_ret3
        exact tokU_row (lexV_ok hbig (by rw [← HE.out]; exact HRes.out)) HB.out HOWN.out
end Go.Proofs.YthepjanojmemaaaGreatDoor
