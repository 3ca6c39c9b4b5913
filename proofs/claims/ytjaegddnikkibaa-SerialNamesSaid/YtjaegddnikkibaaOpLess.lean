/-
  OpaqueLess walked.
-/
import Derived.Test.YtjaegddnikkibaaOpLives
import Derived.Test.YtjaegddnikkibaaAttOpen
import Derived.Deep.AppendLies
set_option linter.unusedVariables false
set_option linter.unusedSimpArgs false
namespace Go.Proofs.Ytjaegddnikkibaa
open Go.RowKit Go.Sort Go.Maps

theorem take_erase {α : Type} {l : List α} {k : Nat} (n : Nat) (hk : k < l.length) : (l.take (k + 1)).eraseIdx n = if k = n then (l.take k).eraseIdx n else (l.take k).eraseIdx n ++ [l[k]] := by
  rw [List.take_succ_eq_append_getElem hk]
  have hl : (l.take k).length = k := by rw [List.length_take]; omega
  rcases Nat.lt_trichotomy k n with h | h | h
  · rw [if_neg (by omega), List.eraseIdx_append_of_length_le (by omega), List.eraseIdx_of_length_le (by omega : (l.take k).length ≤ n), hl]
    rw [List.eraseIdx_of_length_le (by simp; omega)]
  · subst h
    rw [if_pos rfl, List.eraseIdx_append_of_length_le (by omega), List.eraseIdx_of_length_le (by omega : (l.take k).length ≤ k), hl]
    simp
  · rw [if_neg (by omega), List.eraseIdx_append_of_lt_length (by omega)]
theorem attInfo : (Try.prog.info? 35).map (fun i => (i.zero, i.size, i.bytes)) = some (some (.agg #[.int .i64 0, .int .u8 0, .int .i64 0, .int .i64 0, .int .i64 0, .int .i64 0, .bool false, .slice none 0 0]), 8, 80) := by kernel_rfl
theorem attsAt_own {w : World} {base : Nat} {v : Value} {l : List Att} (h : w.ownsRow base 35 8 v l.length (l.flatMap Att.cells)) (he : ∀ x ∈ l, EvsAt w w.heap.size x.dA x.evs) : ∃ A c, v = .slice A l.length c ∧ AttsAt w w.heap.size A l := by
  rcases h.2 with ⟨rfl, hn⟩ | ⟨g, cap, cur, rfl, hg, hb, r⟩
  · have : l = [] := List.eq_nil_of_length_eq_zero hn
    subst this
    exact ⟨none, 0, rfl, fun h => absurd rfl h, he⟩
  · refine ⟨some ⟨g, 0, none⟩, cap, rfl, fun _ => ⟨g, 0, rfl, (Array.getElem?_eq_some_iff.1 hb).1, fun k x hk => ?_⟩, he⟩
    have hlt : k < l.length := (List.getElem?_eq_some_iff.1 hk).1
    have key : ∀ j, j < 8 → w.cell? ⟨g, 0 + k * 8 + j, none⟩ = x.cells[j]? := fun j hj => by
      rw [Nat.zero_add, h.cellAt (k * 8 + j) (by omega)]
      exact flat_at Att.cells 8 (fun _ => rfl) l k j x hk hj
    exact ⟨key 0 (by decide), key 1 (by decide), key 2 (by decide), key 3 (by decide), key 4 (by decide), key 5 (by decide), key 6 (by decide), key 7 (by decide)⟩
theorem length_le_total : ∀ (l : List Att), l.length ≤ totalSize l
  | [] => Nat.le_refl _
  | x :: r => by
    have := length_le_total r
    simp only [List.length_cons, totalSize]; omega

set_option maxHeartbeats 4000000 in
set_option maxRecDepth 100000 in
theorem opaqueLess_walk (A : Option Addr) (c : Nat) (l : List Att) (n : Int) (w : World) (hl : l.length ≤ 35184372088832) (hO : ∀ x ∈ l, x.Ok) (ha : AttsAt w w.heap.size A l) (hn : (Lit.int .i64 n).wf = true) :
    Calls Try.prog 5 #[.slice A l.length c, .int .i64 n] w fun e w' => e = .returned (.bool true) ∧ Below w.heap.size w w' := by
  have HSZ := Lib.hid (asize_any A c _ l hl (fun x hx => (hO x hx).len) w ha)
  have HLE := Lib.hid (asizeV_le l)
  by_cases hby : 262144 < asizeV l
  · have HBY : Hid (decide (262144 < asizeV l) = true) := Lib.hid (by simpa using hby)
    have HBE := Lib.hid (fun o => (Below.refl w.heap.size w).alloc (Nat.le_refl _) o)
    clear ha hO hby
    go_enter Try.func5, Try.ntmps5
    go_wp2_with fail
    refine HSZ.out.mono ?_
    rintro e w' ⟨rfl, rfl⟩
    go_wp2_with fail
    refine (beyond_any w.heap.size 0 1 (asizeV l) HLE.out.1 HLE.out.2 _ (by simp)).mono ?_
    rintro e w' ⟨rfl, rfl⟩
    rw [HBY.out]
    go_wp2_with fail
    go_ret
    exact ⟨rfl, HBE.out _⟩
  · have HBY : Hid (decide (262144 < asizeV l) = false) := Lib.hid (by simpa using hby)
    have hts : totalSize l ≤ 262144 := by
      have := mt (asizeV_total l).2 hby
      omega
    have hln := Nat.le_trans (length_le_total l) hts
    have HA := Lib.hid (fun W (h : Below w.heap.size w W) => ha.keep h (Nat.le_refl _))
    have HOK := Lib.hid hO
    have HCK := Lib.hid (fun W (h : Below w.heap.size w W) => ocheck_any A c l (by omega) hO W (ha.keep h h.size))
    have HOW := Lib.hid (fun W (h : Below w.heap.size w W) => oown_any A c l (by omega) hO W (ha.keep h h.size))
    have hni := ok64_of_wf hn
    clear ha hO hby hts hn hl
    by_cases h1 : n < 0
    · have t1 : decide (n < 0) = true := by simpa using h1
      clear h1
      go_enter Try.func5, Try.ntmps5
      go_wp2_with fail
      refine HSZ.out.mono ?_
      rintro e w' ⟨rfl, rfl⟩
      go_wp2_with fail
      refine (beyond_any w.heap.size 0 1 (asizeV l) HLE.out.1 HLE.out.2 _ (by simp)).mono ?_
      rintro e w' ⟨rfl, rfl⟩
      rw [HBY.out]
      go_wp2_with fail
      refine (HCK.out _ ((Below.refl _ _).alloc (Nat.le_refl _) _)).mono ?_
      rintro e w1 ⟨rfl, hb1⟩
      have HB1 : Hid (Below w.heap.size w w1) := Lib.hid (((Below.refl _ _).alloc (Nat.le_refl _) _).trans (hb1.mono (by simp)))
      clear hb1
      go_wp2_with fail
      refine (HOW.out _ HB1.out).mono ?_
      rintro e w2 ⟨rfl, hb2⟩
      have HB2 : Hid (Below w.heap.size w w2) := Lib.hid (HB1.out.trans (hb2.mono HB1.out.size))
      clear hb2
      go_wp2_with fail
      refine (lives30_any _).mono ?_
      rintro e w3 ⟨rfl, hb3⟩
      have HB3 : Hid (Below w.heap.size w w3) := Lib.hid (HB2.out.trans (hb3.mono HB2.out.size))
      clear hb3
      go_wp2_with fail
      go_ret
      exact ⟨rfl, HB3.out⟩
    · have t1 : decide (n < 0) = false := by simpa using h1
      obtain ⟨m, rfl⟩ : ∃ m : Nat, n = m := ⟨n.toNat, by omega⟩
      clear h1 hni
      by_cases h2 : l.length ≤ m
      · have t2 : decide ((l.length : Int) ≤ (m : Int)) = true := by simpa using h2
        have t2n : decide (l.length ≤ m) = true := by simpa using h2
        clear h2
        go_enter Try.func5, Try.ntmps5
        go_wp2_with fail
        refine HSZ.out.mono ?_
        rintro e w' ⟨rfl, rfl⟩
        go_wp2_with fail
        refine (beyond_any w.heap.size 0 1 (asizeV l) HLE.out.1 HLE.out.2 _ (by simp)).mono ?_
        rintro e w' ⟨rfl, rfl⟩
        rw [HBY.out]
        go_wp2_with fail
        refine (HCK.out _ ((Below.refl _ _).alloc (Nat.le_refl _) _)).mono ?_
        rintro e w1 ⟨rfl, hb1⟩
        have HB1 : Hid (Below w.heap.size w w1) := Lib.hid (((Below.refl _ _).alloc (Nat.le_refl _) _).trans (hb1.mono (by simp)))
        clear hb1
        go_wp2_with fail
        refine (HOW.out _ HB1.out).mono ?_
        rintro e w2 ⟨rfl, hb2⟩
        have HB2 : Hid (Below w.heap.size w w2) := Lib.hid (HB1.out.trans (hb2.mono HB1.out.size))
        clear hb2
        go_wp2_with fail
        refine (lives30_any _).mono ?_
        rintro e w3 ⟨rfl, hb3⟩
        have HB3 : Hid (Below w.heap.size w w3) := Lib.hid (HB2.out.trans (hb3.mono HB2.out.size))
        clear hb3
        go_wp2_with fail
        go_ret
        exact ⟨rfl, HB3.out⟩
      · have t2 : decide ((l.length : Int) ≤ (m : Int)) = false := by simpa using h2
        have t2n : decide (l.length ≤ m) = false := by simpa using h2
        have hm : m < l.length := by omega
        have hge := List.getElem?_eq_getElem hm
        have p1 : (m : Int) < (l.length : Int) := by omega
        have p3 : (0 : Int) ≤ (m : Int) := Int.natCast_nonneg _
        clear h2
        by_cases h3 : l[m].kd = 1
        · skip
          go_enter Try.func5, Try.ntmps5
          go_wp2_with fail
          refine HSZ.out.mono ?_
          rintro e w' ⟨rfl, rfl⟩
          go_wp2_with fail
          refine (beyond_any w.heap.size 0 1 (asizeV l) HLE.out.1 HLE.out.2 _ (by simp)).mono ?_
          rintro e w' ⟨rfl, rfl⟩
          rw [HBY.out]
          go_wp2_with fail
          refine (HCK.out _ ((Below.refl _ _).alloc (Nat.le_refl _) _)).mono ?_
          rintro e w1 ⟨rfl, hb1⟩
          have HB1 : Hid (Below w.heap.size w w1) := Lib.hid (((Below.refl _ _).alloc (Nat.le_refl _) _).trans (hb1.mono (by simp)))
          clear hb1
          go_wp2_with fail
          refine (HOW.out _ HB1.out).mono ?_
          rintro e w2 ⟨rfl, hb2⟩
          have HB2 : Hid (Below w.heap.size w w2) := Lib.hid (HB1.out.trans (hb2.mono HB1.out.size))
          clear hb2
          obtain ⟨b, off, rfl, hbl, hc⟩ := (HA.out _ HB2.out).row (by rintro rfl; simp at hm)
          have c1 := (hc m _ hge).c1
          rw [h3] at c1
          clear hc hge h3
          go_wp2_with fail
          refine (lives30_any _).mono ?_
          rintro e w3 ⟨rfl, hb3⟩
          have HB3 : Hid (Below w.heap.size w w3) := Lib.hid (HB2.out.trans (hb3.mono HB2.out.size))
          clear hb3
          go_wp2_with fail
          go_ret
          exact ⟨rfl, HB3.out⟩
        · have hle1 := Lib.hid (fun h => ocheck_less hge h3 h)
          have hle2 := Lib.hid (fun h => oown_less hge h3 h)
          have hlen : (l.eraseIdx m).length ≤ 262144 := by rw [List.length_eraseIdx_of_lt hm]; omega
          have HOK2 : Hid (∀ x ∈ l.eraseIdx m, x.Ok) := Lib.hid (fun x hx => HOK.out x (List.mem_of_mem_eraseIdx hx))
          have hstart : Hid ((l.take 0).eraseIdx m = []) := Lib.hid (by simp)
          have hend : Hid ((l.take l.length).eraseIdx m = l.eraseIdx m) := Lib.hid (by rw [List.take_length])
          have t3 : (l[m].kd == 1) = false := by simpa using h3
          have t4 : decide (l[m].kd = 1) = false := by simpa using h3
          obtain ⟨i0, hi0, hz0, hz1, hz2⟩ := info_parts attInfo
          have HCK2 := Lib.hid (fun (A2 : Option Addr) (c2 : Nat) W (h : AttsAt W W.heap.size A2 (l.eraseIdx m)) => ocheck_any A2 c2 (l.eraseIdx m) (by omega) HOK2.out W h)
          have HOW2 := Lib.hid (fun (A2 : Option Addr) (c2 : Nat) W (h : AttsAt W W.heap.size A2 (l.eraseIdx m)) => oown_any A2 c2 (l.eraseIdx m) (by omega) HOK2.out W h)
          generalize ocheckV l = E1 at *
          generalize oownV l = E2 at *
          generalize ocheckV (l.eraseIdx m) = E3 at *
          generalize oownV (l.eraseIdx m) = E4 at *
          obtain ⟨e1, e2⟩ := E1
          obtain ⟨f1, f2⟩ := E2
          obtain ⟨g1, g2⟩ := E3
          obtain ⟨h1, h2⟩ := E4
          dsimp only at *
          go_enter Try.func5, Try.ntmps5
          go_wp2_with fail
          refine HSZ.out.mono ?_
          rintro e w' ⟨rfl, rfl⟩
          go_wp2_with fail
          refine (beyond_any w.heap.size 0 1 (asizeV l) HLE.out.1 HLE.out.2 _ (by simp)).mono ?_
          rintro e w' ⟨rfl, rfl⟩
          rw [HBY.out]
          go_wp2_with fail
          refine (HCK.out _ ((Below.refl _ _).alloc (Nat.le_refl _) _)).mono ?_
          rintro e w1 ⟨rfl, hb1⟩
          have HB1 : Hid (Below w.heap.size w w1) := Lib.hid (((Below.refl _ _).alloc (Nat.le_refl _) _).trans (hb1.mono (by simp)))
          clear hb1
          go_wp2_with fail
          refine (HOW.out _ HB1.out).mono ?_
          rintro e w2 ⟨rfl, hb2⟩
          have HB2 : Hid (Below w.heap.size w w2) := Lib.hid (HB1.out.trans (hb2.mono HB1.out.size))
          clear hb2
          obtain ⟨b, off, rfl, hbl, hc⟩ := (HA.out _ HB2.out).row (by rintro rfl; simp at hm)
          have c1 := (hc m _ hge).c1
          clear hc hge h3
          go_wp2_with fail
          clear c1
          go_loopw [9, 10] (fun v i wr => ∃ k : Nat, i = .int .i64 k ∧ k ≤ l.length ∧ Hid (wr.ownsRow w2.heap.size 35 8 v ((l.take k).eraseIdx m).length (((l.take k).eraseIdx m).flatMap Att.cells)) ∧ Hid (Below w2.heap.size w2 wr)) (fun _ i _ => l.length - (intOf i).toNat)
          case atStart => exact ⟨0, rfl, Nat.zero_le _, Lib.hid (by rw [hstart.out]; exact World.ownsRow_nil _ _ _ _), Lib.hid (Below.refl _ _)⟩
          case round =>
            obtain ⟨k, rfl, hk, hown, hW⟩ := hrel
            have HW : Hid (Below w.heap.size w wr) := Lib.hid (HB2.out.trans (hW.out.mono HB2.out.size))
            by_cases hlt : k < l.length
            · have hst := Lib.hid (take_erase m hlt)
              by_cases hkm : k = m
              · subst hkm
                have hown2 : Hid (wr.ownsRow w2.heap.size 35 8 u9 ((l.take (k + 1)).eraseIdx k).length (((l.take (k + 1)).eraseIdx k).flatMap Att.cells)) := Lib.hid (by rw [hst.out, if_pos rfl]; exact hown.out)
                clear hst hown
                go_wp2_with fail
                go_roundw
                case rel => exact ⟨k + 1, by go_num, by omega, hown2, hW⟩
                case measure => simp [intOf]; omega
              · obtain ⟨b', off', he, hbl', hc⟩ := (HA.out _ HW.out).row (by rintro rfl; simp at hm)
                injection he with he
                injection he with he1 he2
                subst he1; subst he2
                obtain ⟨c0, c1, c2, c3, c4, c5, c6, c7⟩ := hc k _ (List.getElem?_eq_getElem hlt)
                have hst2 : Hid ((l.take (k + 1)).eraseIdx m = (l.take k).eraseIdx m ++ [l[k]]) := Lib.hid (by rw [hst.out, if_neg hkm])
                have t5 : ((k : Int) == (m : Int)) = false := by simp; omega
                have t6 : decide ((k : Int) = (m : Int)) = false := by simp; omega
                have t6n : decide (k = m) = false := by simpa using hkm
                have t7 : ((k : Int) != (m : Int)) = true := by simp; omega
                have HLEN : Hid (((l.take k).eraseIdx m).length ≤ 262144) := Lib.hid (by
                  have h1 := List.length_eraseIdx_le (l.take k) m
                  have h2 : (l.take k).length ≤ l.length := by rw [List.length_take]; omega
                  omega)
                have hsr : w2.heap.size ≤ wr.heap.size := hW.out.size
                clear hc hst
                generalize l[k] = x at *
                obtain ⟨th, kd, bg, en, ck, pl, wt, dA, dc, evs⟩ := x
                dsimp only at c0 c1 c2 c3 c4 c5 c6 c7
                go_wp2_with (at_builtin; refine wpList_append_own _ rfl _ _ 22 rfl w2.heap.size 35 i0 _ 8 80 Try.underlying22 hi0 hz0 hz1 hz2 rfl (by decide) _ _ _ rfl (hown.out.alloc _) ⟨wr.heap.size, 0, none⟩ 1 1 [.int .i64 th, .int .u8 kd, .int .i64 bg, .int .i64 en, .int .i64 ck, .int .i64 pl, .bool wt, .slice dA evs.length dc] rfl rfl (World.news_of_block (cs := #[.int .i64 th, .int .u8 kd, .int .i64 bg, .int .i64 en, .int .i64 ck, .int .i64 pl, .bool wt, .slice dA evs.length dc]) (t := 35) (fr := (0, 0)) (heap_alloc_new wr _)) (by simp [Value.oneCell']) (by have := HLEN.out; unfold maxLen; omega) (by have := HLEN.out; omega) (by simp; omega) ?_)
                intro v' w3 hown' hgrow hnil'
                have hB3 : Hid (Below w2.heap.size w2 w3) := Lib.hid ((hW.out.alloc hsr _).grown hgrow (by simp; omega) (fun kk h => (hown.out.lt kk h).1))
                have hown3 : Hid (w3.ownsRow w2.heap.size 35 8 v' ((l.take (k + 1)).eraseIdx m).length (((l.take (k + 1)).eraseIdx m).flatMap Att.cells)) := Lib.hid (by
                  rw [hst2.out, List.length_append, List.flatMap_append]; exact hown')
                clear hown' hgrow hnil' hown hW hst2 HW c0 c1 c2 c3 c4 c5 c6 c7
                go_wp2_with fail
                go_roundw
                case rel => exact ⟨k + 1, by go_num, by omega, hown3, hB3⟩
                case measure => simp [intOf]; omega
            · obtain rfl : k = l.length := by omega
              have hown2 : Hid (wr.ownsRow w2.heap.size 35 8 u9 (l.eraseIdx m).length ((l.eraseIdx m).flatMap Att.cells)) := Lib.hid (by rw [← hend.out]; exact hown.out)
              have hEV : Hid (∀ x ∈ l.eraseIdx m, EvsAt wr wr.heap.size x.dA x.evs) := Lib.hid (fun x hx => ((HA.out _ HW.out).evs x (List.mem_of_mem_eraseIdx hx)).keep (Below.refl _ _) HW.out.size)
              obtain ⟨A2, c2, rfl, hA2⟩ := attsAt_own hown2.out hEV.out
              have HA2 := Lib.hid (fun W (h : Below wr.heap.size wr W) => hA2.keep h h.size)
              clear hown2 hEV hA2 hown hstart hend t3 t4
              go_wp2_with fail
              refine (HCK2.out _ _ _ (HA2.out _ (Below.refl _ _))).mono ?_
              rintro e w3 ⟨rfl, hb3⟩
              have HB3 : Hid (Below w.heap.size w w3) := Lib.hid (HW.out.trans (hb3.mono HW.out.size))
              have HD3 := Lib.hid hb3
              clear hb3
              go_wp2_with fail
              refine (HOW2.out _ _ _ (HA2.out _ HD3.out)).mono ?_
              rintro e w4 ⟨rfl, hb4⟩
              have HB4 : Hid (Below w.heap.size w w4) := Lib.hid (HB3.out.trans (hb4.mono HB3.out.size))
              clear hb4
              by_cases he : e2 = 0
              · have hg : g2 = 0 := hle1.out he
                subst he; subst hg
                by_cases hf : f2 = 0
                · have hh : h2 = 0 := hle2.out hf
                  subst hf; subst hh
                  clear hle1 hle2
                  go_wp2_with fail
                  refine (lives30_any _).mono ?_
                  rintro e w5 ⟨rfl, hb5⟩
                  have HB5 : Hid (Below w.heap.size w w5) := Lib.hid (HB4.out.trans (hb5.mono HB4.out.size))
                  clear hb5
                  go_wp2_with fail
                  go_ret
                  exact ⟨rfl, HB5.out⟩
                · have t8 : (f2 != 0) = true := by simpa using hf
                  have t9 : (f2 == 0) = false := by simpa using hf
                  have t10 : decide (f2 = 0) = false := by simpa using hf
                  clear hle1 hle2 hf
                  go_wp2_with fail
                  refine (lives30_any _).mono ?_
                  rintro e w5 ⟨rfl, hb5⟩
                  have HB5 : Hid (Below w.heap.size w w5) := Lib.hid (HB4.out.trans (hb5.mono HB4.out.size))
                  clear hb5
                  go_wp2_with fail
                  go_ret
                  exact ⟨rfl, HB5.out⟩
              · have t11 : (e2 != 0) = true := by simpa using he
                have t12 : (e2 == 0) = false := by simpa using he
                have t13 : decide (e2 = 0) = false := by simpa using he
                by_cases hf : f2 = 0
                · have hh : h2 = 0 := hle2.out hf
                  subst hf; subst hh
                  clear hle1 hle2 he
                  go_wp2_with fail
                  refine (lives30_any _).mono ?_
                  rintro e w5 ⟨rfl, hb5⟩
                  have HB5 : Hid (Below w.heap.size w w5) := Lib.hid (HB4.out.trans (hb5.mono HB4.out.size))
                  clear hb5
                  go_wp2_with fail
                  go_ret
                  exact ⟨rfl, HB5.out⟩
                · have t8 : (f2 != 0) = true := by simpa using hf
                  have t9 : (f2 == 0) = false := by simpa using hf
                  have t10 : decide (f2 = 0) = false := by simpa using hf
                  clear hle1 hle2 hf he
                  go_wp2_with fail
                  refine (lives30_any _).mono ?_
                  rintro e w5 ⟨rfl, hb5⟩
                  have HB5 : Hid (Below w.heap.size w w5) := Lib.hid (HB4.out.trans (hb5.mono HB4.out.size))
                  clear hb5
                  go_wp2_with fail
                  go_ret
                  exact ⟨rfl, HB5.out⟩
end Go.Proofs.Ytjaegddnikkibaa
