/-
  OpaqueFirst walked.
-/
import Derived.Test.YtjaegddnikkibaaOpLess
import Derived.Test.YtjaegddnikkibaaWords
import Derived.Test.YtjaegddnikkibaaPick
import Derived.BigQuiet
set_option linter.unusedVariables false
set_option linter.unusedSimpArgs false
namespace Go.Proofs.Ytjaegddnikkibaa
open Go.RowKit Go.Sort Go.Maps

theorem AttsAt.at {w : World} {B b off : Nat} {l : List Att} (h : AttsAt w B (some ⟨b, off, none⟩) l) {k : Nat} {x : Att} (hx : l[k]? = some x) : AttAt w b (off + k * 8) x := by
  obtain ⟨b', off', he, -, hc⟩ := h.row (by rintro rfl; simp at hx)
  injection he with he
  injection he with he1 he2
  subst he1; subst he2
  exact hc k x hx
theorem EvsAt.at {w : World} {B b off : Nat} {l : List Ev} (h : EvsAt w B (some ⟨b, off, none⟩) l) {k : Nat} {x : Ev} (hx : l[k]? = some x) : EvAt w b (off + k * 4) x := by
  obtain ⟨b', off', he, -, hc⟩ := h (by rintro rfl; simp at hx)
  injection he with he
  injection he with he1 he2
  subst he1; subst he2
  exact hc k x hx
theorem own_drewN {w : World} {B e size n : Nat} {v : Value} {xs : List Value} (h : w.ownsRow B e size v n xs) (q : Nat) : (w.drewN q).ownsRow B e size v n xs := h
def hasStep (a : Int) (h : Int) (p : Int × Int) : Int := if p.1 = a then p.2 else h
def hasV (cs : List (Int × Int)) (a : Int) : Int := cs.foldl (hasStep a) 0
theorem hasV_go (a : Int) : ∀ (cs : List (Int × Int)) (h0 : Int), cs.Pairwise (fun p q => p.1 < q.1) → (∀ v, (a, v) ∈ cs → cs.foldl (hasStep a) h0 = v) ∧ ((∀ v, (a, v) ∉ cs) → cs.foldl (hasStep a) h0 = h0)
  | [], _, _ => ⟨fun v h => by simp at h, fun _ => rfl⟩
  | p :: r, h0, hp => by
    obtain ⟨h1, h2⟩ := List.pairwise_cons.1 hp
    obtain ⟨i1, i2⟩ := hasV_go a r (hasStep a h0 p) h2
    refine ⟨fun v hv => ?_, fun hn => ?_⟩
    · rw [List.foldl_cons]
      rcases List.mem_cons.1 hv with e | hv
      · rw [i2 (fun v' hv' => by have := h1 _ hv'; rw [← e] at this; simp at this)]
        unfold hasStep
        rw [← e, if_pos rfl]
      · exact i1 v hv
    · rw [List.foldl_cons, i2 (fun v hv => hn v (by simp [hv]))]
      unfold hasStep
      rw [if_neg]
      intro e
      exact hn p.2 (by rw [← e]; simp)
theorem hasV_eq {cs : List (Int × Int)} {f : Int → Option Int} (h : WordsIs cs f) (a : Int) : hasV cs a = (f a).getD 0 := by
  obtain ⟨h1, h2⟩ := hasV_go a cs 0 h.up
  cases hf : f a with
  | some v => exact h1 v ((h.mem a v).2 hf)
  | none => exact h2 (fun v hv => by rw [(h.mem a v).1 hv] at hf; cases hf)
theorem hasV_take {cs : List (Int × Int)} {a : Int} {k : Nat} (h : k < cs.length) : hasV (cs.take (k + 1)) a = if cs[k].1 = a then cs[k].2 else hasV (cs.take k) a := by
  unfold hasV
  rw [List.take_succ_eq_append_getElem h, List.foldl_append]; rfl
theorem CellsAt.at {w : World} {b off : Nat} {cs : List (Int × Int)} (h : CellsAt w (some ⟨b, off, none⟩) cs) {k : Nat} {x : Int × Int} (hx : cs[k]? = some x) : w.cell? ⟨b, off + k * 2, none⟩ = some (.int .i64 x.1) ∧ w.cell? ⟨b, off + k * 2 + 1, none⟩ = some (.int .i64 x.2) := by
  obtain ⟨b', off', he, -, hc⟩ := h (by rintro rfl; simp at hx)
  injection he with he
  injection he with he1 he2
  subst he1; subst he2
  exact hc k x hx
/-- the reads at the front of what was given up are those of the words of those ahead -/
theorem first_reads {l : List Att} {n : Nat} {y : Att} (hn : l[n]? = some y) (hk : y.kd ≠ 1) (hok : (ocheckV l).2 = 0) {cs : List (Int × Int)} (hc : WordsIs cs (allK (pick (fun z => decide (z.pl ≤ y.ck)) l) (orderV (pick (fun z => decide (z.pl ≤ y.ck)) l))))
    {j : Nat} (hj : j < y.evs.length) (hr : ∀ i (hi : i < y.evs.length), i ≤ j → y.evs[i].kd = 2 ∨ y.evs[i].kd = 4) : hasV cs y.evs[j].a = y.evs[j].b := by
  rw [hasV_eq hc, heap_pick hn hk]
  obtain ⟨hlt, he⟩ := List.getElem?_eq_some_iff.1 hn
  have h1 := (ocheckV_ok.1 hok).2 n hlt
  unfold seenB at h1
  simp only [Bool.and_eq_true] at h1
  have h2 := h1.2
  rw [attN_get hlt, he] at h2
  exact okV_front y.evs _ j h2 hr hj

set_option maxHeartbeats 4000000 in
set_option maxRecDepth 100000 in
theorem opaqueFirst_walk (hs : SortsCells) (A : Option Addr) (c : Nat) (l : List Att) (w : World) (hl : l.length ≤ 35184372088832) (hO : ∀ x ∈ l, x.Ok) (ha : AttsAt w w.heap.size A l) :
    Calls Try.prog 7 #[.slice A l.length c] w fun e w' => e = .returned (.bool true) ∧ Below w.heap.size w w' := by
  have HSZ := Lib.hid (asize_any A c _ l hl (fun x hx => (hO x hx).len) w ha)
  have HLE := Lib.hid (asizeV_le l)
  by_cases hby : 262144 < asizeV l
  · have HBY : Hid (decide (262144 < asizeV l) = true) := Lib.hid (by simpa using hby)
    have HBE := Lib.hid (fun o => (Below.refl w.heap.size w).alloc (Nat.le_refl _) o)
    clear ha hO hby
    go_enter Try.func7, Try.ntmps7
    go_wp2_with fail
    refine HSZ.out.mono ?_
    rintro e w' ⟨rfl, rfl⟩
    go_wp2_with fail
    refine (beyond_any w.heap.size 0 1 (asizeV l) HLE.out.1 HLE.out.2 _ (by simp)).mono ?_
    rintro e w' ⟨rfl, rfl⟩
    rw [HBY.out]
    go_wp2_with fail
    go_ret
    exact ⟨rfl, HBE.out _⟩
  · have HBY : Hid (decide (262144 < asizeV l) = false) := Lib.hid (by simpa using hby)
    have hts : totalSize l ≤ 262144 := by
      have := mt (asizeV_total l).2 hby
      omega
    have hln := Nat.le_trans (length_le_total l) hts
    have HA := Lib.hid (fun W (h : Below w.heap.size w W) => ha.keep h (Nat.le_refl _))
    have HOK := Lib.hid hO
    have HCK := Lib.hid (fun W (h : Below w.heap.size w W) => ocheck_any A c l (by omega) hO W (ha.keep h h.size))
    clear ha hO hby hl
    have hcase : (ocheckV l).2 = 0 ∨ (ocheckV l).2 = 17 ∨ (ocheckV l).2 = 15 ∨ (ocheckV l).2 = 3 := by
      unfold ocheckV
      by_cases h : checkedV l = 0
      · rw [if_pos h]
        cases firstNot (seenB l) 0 l.length with
        | none => exact Or.inl rfl
        | some n => exact Or.inr (Or.inl rfl)
      · rw [if_neg h]
        rcases checked_kinds l h with h | h <;> simp [h]
    rcases hcase with h | h | h | h
    · have HE := Lib.hid h
      have hck := (ocheckV_ok.1 h).1
      have hevl := Lib.hid (fun x (hx : x ∈ l) => Nat.le_trans (evs_le_total l x hx) hts)
      have HWO := Lib.hid (fun (q : Att → Bool) (A2 : Option Addr) (c2 : Nat) W (h : AttsAt W W.heap.size A2 (pick q l)) => words_any hs A2 c2 (pick q l) (by have := List.length_filter_le (pickB q) l; unfold pick; omega) (fun x hx => HOK.out x (pick_kd hx).1) W h)
      have HCP := Lib.hid (fun q => checkedV_pick q hck)
      clear h hck
      obtain ⟨i0, hi0, hz0, hz1, hz2⟩ := info_parts attInfo
      go_enter Try.func7, Try.ntmps7
      go_wp2_with fail
      refine HSZ.out.mono ?_
      rintro e w' ⟨rfl, rfl⟩
      go_wp2_with fail
      refine (beyond_any w.heap.size 0 1 (asizeV l) HLE.out.1 HLE.out.2 _ (by simp)).mono ?_
      rintro e w' ⟨rfl, rfl⟩
      rw [HBY.out]
      go_wp2_with fail
      refine (HCK.out _ ((Below.refl _ _).alloc (Nat.le_refl _) _)).mono ?_
      rintro e w1 ⟨rfl, hb1⟩
      have HB1 : Hid (Below w.heap.size w w1) := Lib.hid (((Below.refl _ _).alloc (Nat.le_refl _) _).trans (hb1.mono (by simp)))
      clear hb1
      rw [HE.out]
      go_wp2_with fail
      go_loopw [5] (fun i wr => ∃ k : Nat, i = .int .i64 k ∧ k ≤ l.length ∧ Hid (Below w.heap.size w wr)) (fun i _ => l.length - (intOf i).toNat)
      case atStart => exact ⟨0, rfl, Nat.zero_le _, HB1⟩
      case round =>
        obtain ⟨k, rfl, hk, hW⟩ := hrel
        by_cases hlt : k < l.length
        · by_cases h60 : k < 60
          · have t60 : decide ((k : Int) < 60) = true := by simp; omega
            clear h60
            obtain ⟨b, off, rfl, hbl, -⟩ := (HA.out _ hW.out).row (by rintro rfl; simp at hlt)
            have hge := List.getElem?_eq_getElem hlt
            have HC := Lib.hid (fun W (h : Below w.heap.size w W) m x (hx : l[m]? = some x) => (HA.out W h).at hx)
            have c1 := (HC.out _ hW.out k _ hge).c1
            have p1 : (k : Int) < (l.length : Int) := by omega
            have p3 : (0 : Int) ≤ (k : Int) := Int.natCast_nonneg _
            by_cases hkd : l[k].kd = 1
            · rw [hkd] at c1
              clear hkd hge
              go_wp2_with fail
              go_roundw
              case rel => exact ⟨k + 1, by go_num, by omega, hW⟩
              case measure => simp [intOf]; omega
            · have HFR := Lib.hid (fun cs h j hj hr => first_reads (cs := cs) (j := j) hge hkd HE.out h hj hr)
              have HEV := Lib.hid (fun W (h : Below w.heap.size w W) => (HA.out W h).evs _ (List.getElem_mem hlt))
              have hxl := hevl.out _ (List.getElem_mem hlt)
              have HCY := Lib.hid (fun W (h : Below w.heap.size w W) => HC.out W h k _ hge)
              have HEB := Lib.hid (fun j (hj : j < l[k].evs.length) => (HOK.out _ (List.getElem_mem hlt)).evs _ (List.getElem_mem hj))
              clear hge
              generalize l[k] = y at *
              obtain ⟨th, kd, bg, en, ck, pl, wt, dA, dc, evs⟩ := y
              dsimp only at *
              have t1 : (kd == 1) = false := by simpa using hkd
              have t2 : decide (kd = 1) = false := by simpa using hkd
              obtain ⟨q, hq⟩ : ∃ q : Att → Bool, (fun z => decide (z.pl ≤ ck)) = q := ⟨_, rfl⟩
              have HQ : Hid (∀ z, q z = decide (z.pl ≤ ck)) := Lib.hid (fun z => by rw [← hq])
              rw [hq] at HFR
              clear hq hkd
              go_wp2_with fail
              obtain ⟨wo, rfl⟩ : ∃ wo : World, wo = wr := ⟨_, rfl⟩
              clear c1
              go_loopw [6, 7] (fun v i wr => ∃ m : Nat, i = .int .i64 m ∧ m ≤ l.length ∧ Hid (wr.ownsRow wo.heap.size 35 8 v (pick q (l.take m)).length ((pick q (l.take m)).flatMap Att.cells)) ∧ Hid (Below wo.heap.size wo wr)) (fun _ i _ => l.length - (intOf i).toNat)
              case atStart => exact ⟨0, rfl, Nat.zero_le _, Lib.hid (World.ownsRow_nil _ _ _ _), Lib.hid (Below.refl _ _)⟩
              case round =>
                obtain ⟨m, rfl, hm, hown, hWi⟩ := hrel
                have HW : Hid (Below w.heap.size w wr) := Lib.hid (hW.out.trans (hWi.out.mono hW.out.size))
                have hsr : wo.heap.size ≤ wr.heap.size := hWi.out.size
                obtain ⟨-, -, -, -, y4, -, -, y7⟩ := HCY.out _ HW.out
                dsimp only at y4 y7
                by_cases hml : m < l.length
                · have hst := Lib.hid (pick_take (q := q) hml)
                  obtain ⟨c0, c1, c2, c3, c4, c5, c6, c7⟩ := HC.out _ HW.out m _ (List.getElem?_eq_getElem hml)
                  have hq := HQ.out l[m]
                  have p5 : (m : Int) < (l.length : Int) := by omega
                  have p6 : (0 : Int) ≤ (m : Int) := Int.natCast_nonneg _
                  have HLEN : Hid ((pick q (l.take m)).length ≤ 262144) := Lib.hid (by
                    have h1 := List.length_filter_le (pickB q) (l.take m)
                    have h2 : (l.take m).length ≤ l.length := by rw [List.length_take]; omega
                    unfold pick; omega)
                  generalize l[m] = x at *
                  obtain ⟨xth, xkd, xbg, xen, xck, xpl, xwt, xdA, xdc, xevs⟩ := x
                  dsimp only at c0 c1 c2 c3 c4 c5 c6 c7 hq
                  by_cases hx1 : xkd = 1
                  · have s1 : (xkd == 1) = true := by simpa using hx1
                    have s2 : decide (xkd = 1) = true := by simpa using hx1
                    by_cases hx2 : xpl ≤ ck
                    · have s3 : decide (xpl ≤ ck) = true := by simpa using hx2
                      have hst2 : Hid (pick q (l.take (m + 1)) = pick q (l.take m) ++ [⟨xth, xkd, xbg, xen, xck, xpl, xwt, xdA, xdc, xevs⟩]) := Lib.hid (by rw [hst.out, if_pos (by unfold pickB; rw [hq]; simp [hx1, hx2])])
                      clear hst hx1 hx2 hq
                      go_wp2_with fail
                      go_quiet (fail)
                      go_wp2_with (at_builtin; refine wpList_append_own _ rfl _ _ 22 rfl wo.heap.size 35 i0 _ 8 80 Try.underlying22 hi0 hz0 hz1 hz2 rfl (by decide) _ _ _ rfl ((own_drewN hown.out _).alloc _) ⟨wr.heap.size, 0, none⟩ 1 1 [.int .i64 xth, .int .u8 xkd, .int .i64 xbg, .int .i64 xen, .int .i64 xck, .int .i64 xpl, .bool xwt, .slice xdA xevs.length xdc] rfl rfl (World.news_of_block (cs := #[.int .i64 xth, .int .u8 xkd, .int .i64 xbg, .int .i64 xen, .int .i64 xck, .int .i64 xpl, .bool xwt, .slice xdA xevs.length xdc]) (t := 35) (fr := (0, 0)) (heap_alloc_new _ _)) (by simp [Value.oneCell']) (by have := HLEN.out; unfold maxLen; omega) (by have := HLEN.out; omega) (by simp; omega) ?_)
                      intro v' w3 hown' hgrow hnil'
                      have hB3 : Hid (Below wo.heap.size wo w3) := Lib.hid (((below_drewN hWi.out _).alloc hsr _).grown hgrow (by simp; omega) (fun kk h => (hown.out.lt kk h).1))
                      have hown3 : Hid (w3.ownsRow wo.heap.size 35 8 v' (pick q (l.take (m + 1))).length ((pick q (l.take (m + 1))).flatMap Att.cells)) := Lib.hid (by
                        rw [hst2.out, List.length_append, List.flatMap_append]; exact hown')
                      clear hown' hgrow hnil' hown hWi hst2 HW c0 c1 c2 c3 c4 c5 c6 c7 y4 y7
                      go_wp2_with fail
                      go_roundw
                      case rel => exact ⟨m + 1, by go_num, by omega, hown3, hB3⟩
                      case measure => simp [intOf]; omega
                    · have s3 : decide (xpl ≤ ck) = false := by simpa using hx2
                      have hst2 : Hid (pick q (l.take (m + 1)) = pick q (l.take m)) := Lib.hid (by rw [hst.out, if_neg (by unfold pickB; rw [hq]; simp [hx2]), List.append_nil])
                      clear hst hx1 hx2 hq
                      go_wp2_with fail
                      go_quiet (fail)
                      go_wp2_with fail
                      go_roundw
                      case rel => exact ⟨m + 1, by go_num, by omega, Lib.hid (by rw [hst2.out]; exact own_drewN hown.out _), Lib.hid (below_drewN hWi.out _)⟩
                      case measure => simp [intOf]; omega
                  · have s1 : (xkd == 1) = false := by simpa using hx1
                    have s2 : decide (xkd = 1) = false := by simpa using hx1
                    have hst2 : Hid (pick q (l.take (m + 1)) = pick q (l.take m)) := Lib.hid (by rw [hst.out, if_neg (by unfold pickB; simp [hx1]), List.append_nil])
                    clear hst hx1 hq
                    go_wp2_with fail
                    go_quiet (fail)
                    go_wp2_with fail
                    go_roundw
                    case rel => exact ⟨m + 1, by go_num, by omega, Lib.hid (by rw [hst2.out]; exact own_drewN hown.out _), Lib.hid (below_drewN hWi.out _)⟩
                    case measure => simp [intOf]; omega
                · obtain rfl : m = l.length := by omega
                  rw [List.take_length] at hown
                  have hEV : Hid (∀ x ∈ pick q l, EvsAt wr wr.heap.size x.dA x.evs) := Lib.hid (fun x hx => ((HA.out _ HW.out).evs x (pick_kd hx).1).keep (Below.refl _ _) HW.out.size)
                  obtain ⟨A2, c2, rfl, hA2⟩ := attsAt_own hown.out hEV.out
                  have hwo := HWO.out q A2 c2 wr hA2
                  have hcp := HCP.out q
                  clear hown hEV hA2 y4 y7 HWO
                  go_wp2_with fail
                  refine hwo.mono ?_
                  rintro e w2 ⟨hb2, ⟨hbad, -⟩ | ⟨-, B, cap, cs, rfl, hWI, hCA, hcl⟩⟩
                  · exact absurd hcp hbad
                  have HB2 : Hid (Below w.heap.size w w2) := Lib.hid (HW.out.trans (hb2.mono HW.out.size))
                  have HCA := Lib.hid (fun W (h : Below w2.heap.size w2 W) => hCA.keep h)
                  have HRD := Lib.hid (fun j hj hr => HFR.out cs hWI j hj hr)
                  have HS0 : Hid (∀ i (hi : i < evs.length), i < 0 → evs[i].kd = 2 ∨ evs[i].kd = 4) := Lib.hid (fun i hi h => by omega)
                  clear hb2 hWI hCA HFR hwo hcp HCP HW
                  go_wp2_with fail
                  obtain ⟨wo2, rfl⟩ : ∃ wo : World, wo = wr := ⟨_, rfl⟩
                  go_loopw [10] (fun i wr => ∃ j : Nat, i = .int .i64 j ∧ j ≤ evs.length ∧ Hid (∀ i (hi : i < evs.length), i < j → evs[i].kd = 2 ∨ evs[i].kd = 4) ∧ Hid (Below w2.heap.size w2 wr)) (fun i _ => evs.length - (intOf i).toNat)
                  case atStart => exact ⟨0, rfl, Nat.zero_le _, HS0, Lib.hid (Below.refl _ _)⟩
                  case round =>
                    clear HS0
                    obtain ⟨j, rfl, hj, hrd, hWj⟩ := hrel
                    have HWJ := Lib.hid (HB2.out.trans (hWj.out.mono HB2.out.size))
                    obtain ⟨-, -, -, -, -, -, -, y7⟩ := HCY.out _ HWJ.out
                    dsimp only at y7
                    by_cases hjl : j < evs.length
                    · by_cases hj6 : j < 60
                      · have t61 : decide ((j : Int) < 60) = true := by simp; omega
                        clear hj6
                        obtain ⟨gb, goff, rfl, hgl, hgc⟩ := HEV.out _ HWJ.out (by rintro rfl; simp at hjl)
                        obtain ⟨e0, e1, e2, e3⟩ := hgc j _ (List.getElem?_eq_getElem hjl)
                        have q1 : (j : Int) < (evs.length : Int) := by omega
                        have q2 : (0 : Int) ≤ (j : Int) := Int.natCast_nonneg _
                        have HR2 : Hid ((evs[j].kd = 2 ∨ evs[j].kd = 4) → hasV cs evs[j].a = evs[j].b) := Lib.hid (fun h => HRD.out j hjl (fun i hi hij => by
                          by_cases e : i = j
                          · subst e; exact h
                          · exact hrd.out i hi (by omega)))
                        have HR3 : Hid ((evs[j].kd = 2 ∨ evs[j].kd = 4) → ∀ i (hi : i < evs.length), i < j + 1 → evs[i].kd = 2 ∨ evs[i].kd = 4) := Lib.hid (fun h i hi hij => by
                          by_cases e : i = j
                          · subst e; exact h
                          · exact hrd.out i hi (by omega))
                        clear hgc hrd
                        generalize evs[j] = ev at *
                        obtain ⟨eth, ekd, ea, eb⟩ := ev
                        dsimp only at *
                        obtain ⟨X, hX⟩ : ∃ X, wr.heap.size = X := ⟨_, rfl⟩
                        obtain ⟨w0, hw0⟩ : ∃ w0, wr.alloc (.cells #[.int .i64 eth, .int .u8 ekd, .int .i64 ea, .int .i64 eb] 38 (0, 0)) = w0 := ⟨_, rfl⟩
                        have hXl : X < w0.heap.size := by rw [← hw0, ← hX]; simp
                        have d1 : w0.cell? ⟨X, 1, none⟩ = some (.int .u8 ekd) := by rw [← hw0, ← hX]; simp
                        have d2 : w0.cell? ⟨X, 2, none⟩ = some (.int .i64 ea) := by rw [← hw0, ← hX]; simp
                        have d3 : w0.cell? ⟨X, 3, none⟩ = some (.int .i64 eb) := by rw [← hw0, ← hX]; simp
                        have D := Lib.hid (fun W (h : Below w0.heap.size w0 W) => (⟨(h.cell (p := ⟨X, 2, none⟩) hXl).trans d2, (h.cell (p := ⟨X, 3, none⟩) hXl).trans d3⟩ : W.cell? ⟨X, 2, none⟩ = some (.int .i64 ea) ∧ W.cell? ⟨X, 3, none⟩ = some (.int .i64 eb)))
                        have HW20 : Hid (Below w2.heap.size w2 w0) := Lib.hid (by rw [← hw0]; exact hWj.out.alloc hWj.out.size _)
                        have HWB := Lib.hid (fun W (h : Below w0.heap.size w0 W) => HW20.out.trans (h.mono HW20.out.size))
                        have HWV := Lib.hid (fun W (h : Below w0.heap.size w0 W) => HB2.out.trans ((HWB.out _ h).mono HB2.out.size))
                        clear hXl HW20 hWj HWJ HRD
                        by_cases hr : ekd = 2 ∨ ekd = 4
                        · have hval := HR2.out hr
                          have HR4 := Lib.hid (HR3.out hr)
                          clear HR2 HR3
                          rcases hr with rfl | rfl
                          · skip
                            go_wp2_with fail
                            clear hw0 d1 d2 d3 e0 e1 e2 e3 y7 hX
                            obtain ⟨wo3, rfl⟩ : ∃ wo : World, wo = wr := ⟨_, rfl⟩
                            go_loopw [12, 13] (fun v i wr => ∃ (p : Nat) (z : Int), i = .int .i64 p ∧ p ≤ cs.length ∧ v = .int .i64 z ∧ Hid (z = hasV (cs.take p) ea) ∧ Hid (Below w0.heap.size w0 wr)) (fun _ i _ => cs.length - (intOf i).toNat)
                            case atStart => exact ⟨0, 0, rfl, Nat.zero_le _, rfl, Lib.hid rfl, Lib.hid (Below.refl _ _)⟩
                            case round =>
                              obtain ⟨p, z, rfl, hp, rfl, hz, hWp⟩ := hrel
                              obtain ⟨d2, d3⟩ := D.out _ hWp.out
                              by_cases hpl : p < cs.length
                              · have hst := Lib.hid (hasV_take (a := ea) hpl)
                                obtain ⟨cb, coff, rfl, -, hcc⟩ := HCA.out _ (HWB.out _ hWp.out) (by rintro rfl; simp at hpl)
                                obtain ⟨f0, f1⟩ := hcc p _ (List.getElem?_eq_getElem hpl)
                                have r1 : (p : Int) < (cs.length : Int) := by omega
                                have r2 : (0 : Int) ≤ (p : Int) := Int.natCast_nonneg _
                                clear hcc
                                generalize cs[p] = cc at *
                                obtain ⟨cx, cv⟩ := cc
                                dsimp only at *
                                have hE := Lib.hid (fun n => below_drewN hWp.out n)
                                by_cases hxa : cx = ea
                                · have s1 : decide (cx = ea) = true := by simpa using hxa
                                  have s2 : (cx == ea) = true := by simpa using hxa
                                  have hz2 : Hid (cv = hasV (cs.take (p + 1)) ea) := Lib.hid (by rw [hst.out, if_pos hxa])
                                  clear hst hxa hz hWp
                                  go_wp2_with fail
                                  go_quiet (fail)
                                  go_wp2_with fail
                                  go_roundw
                                  case rel => exact ⟨p + 1, cv, by go_num, by omega, rfl, hz2, Lib.hid (hE.out _)⟩
                                  case measure => simp [intOf]; omega
                                · have s1 : decide (cx = ea) = false := by simpa using hxa
                                  have s2 : (cx == ea) = false := by simpa using hxa
                                  have hz2 : Hid (z = hasV (cs.take (p + 1)) ea) := Lib.hid (by rw [hst.out, if_neg hxa, hz.out])
                                  clear hst hxa hz hWp
                                  go_wp2_with fail
                                  go_quiet (fail)
                                  go_wp2_with fail
                                  go_roundw
                                  case rel => exact ⟨p + 1, z, by go_num, by omega, rfl, hz2, Lib.hid (hE.out _)⟩
                                  case measure => simp [intOf]; omega
                              · have hzb : z = eb := by rw [hz.out, List.take_of_length_le (by omega), hval]
                                have hE := Lib.hid (HWB.out _ hWp.out)
                                subst hzb
                                clear hz hWp hval
                                go_wp2_with fail
                                go_roundw
                                case rel => exact ⟨j + 1, by go_num, by omega, HR4, hE⟩
                                case measure => simp [intOf]; omega
                          · skip
                            go_wp2_with fail
                            clear hw0 d1 d2 d3 e0 e1 e2 e3 y7 hX
                            obtain ⟨wo3, rfl⟩ : ∃ wo : World, wo = wr := ⟨_, rfl⟩
                            go_loopw [12, 13] (fun v i wr => ∃ (p : Nat) (z : Int), i = .int .i64 p ∧ p ≤ cs.length ∧ v = .int .i64 z ∧ Hid (z = hasV (cs.take p) ea) ∧ Hid (Below w0.heap.size w0 wr)) (fun _ i _ => cs.length - (intOf i).toNat)
                            case atStart => exact ⟨0, 0, rfl, Nat.zero_le _, rfl, Lib.hid rfl, Lib.hid (Below.refl _ _)⟩
                            case round =>
                              obtain ⟨p, z, rfl, hp, rfl, hz, hWp⟩ := hrel
                              obtain ⟨d2, d3⟩ := D.out _ hWp.out
                              by_cases hpl : p < cs.length
                              · have hst := Lib.hid (hasV_take (a := ea) hpl)
                                obtain ⟨cb, coff, rfl, -, hcc⟩ := HCA.out _ (HWB.out _ hWp.out) (by rintro rfl; simp at hpl)
                                obtain ⟨f0, f1⟩ := hcc p _ (List.getElem?_eq_getElem hpl)
                                have r1 : (p : Int) < (cs.length : Int) := by omega
                                have r2 : (0 : Int) ≤ (p : Int) := Int.natCast_nonneg _
                                clear hcc
                                generalize cs[p] = cc at *
                                obtain ⟨cx, cv⟩ := cc
                                dsimp only at *
                                have hE := Lib.hid (fun n => below_drewN hWp.out n)
                                by_cases hxa : cx = ea
                                · have s1 : decide (cx = ea) = true := by simpa using hxa
                                  have s2 : (cx == ea) = true := by simpa using hxa
                                  have hz2 : Hid (cv = hasV (cs.take (p + 1)) ea) := Lib.hid (by rw [hst.out, if_pos hxa])
                                  clear hst hxa hz hWp
                                  go_wp2_with fail
                                  go_quiet (fail)
                                  go_wp2_with fail
                                  go_roundw
                                  case rel => exact ⟨p + 1, cv, by go_num, by omega, rfl, hz2, Lib.hid (hE.out _)⟩
                                  case measure => simp [intOf]; omega
                                · have s1 : decide (cx = ea) = false := by simpa using hxa
                                  have s2 : (cx == ea) = false := by simpa using hxa
                                  have hz2 : Hid (z = hasV (cs.take (p + 1)) ea) := Lib.hid (by rw [hst.out, if_neg hxa, hz.out])
                                  clear hst hxa hz hWp
                                  go_wp2_with fail
                                  go_quiet (fail)
                                  go_wp2_with fail
                                  go_roundw
                                  case rel => exact ⟨p + 1, z, by go_num, by omega, rfl, hz2, Lib.hid (hE.out _)⟩
                                  case measure => simp [intOf]; omega
                              · have hzb : z = eb := by rw [hz.out, List.take_of_length_le (by omega), hval]
                                have hE := Lib.hid (HWB.out _ hWp.out)
                                subst hzb
                                clear hz hWp hval
                                go_wp2_with fail
                                go_roundw
                                case rel => exact ⟨j + 1, by go_num, by omega, HR4, hE⟩
                                case measure => simp [intOf]; omega
                        · have s1 : (ekd == 2) = false := by simp; omega
                          have s2 : (ekd == 4) = false := by simp; omega
                          have s3 : decide (ekd = 2) = false := by simp; omega
                          have s4 : decide (ekd = 4) = false := by simp; omega
                          have s5 : (ekd != 2) = true := by simp; omega
                          have s6 : (ekd != 4) = true := by simp; omega
                          have hE := Lib.hid (HWV.out _ (Below.refl _ _))
                          clear HR2 HR3 hr
                          go_wp2_with fail
                          go_roundw
                          case rel => exact ⟨k + 1, by go_num, by omega, hE⟩
                          case measure => simp [intOf]; omega
                      · have hE := Lib.hid HWJ.out
                        clear hWj
                        go_wp2_with fail
                        go_roundw
                        case rel => exact ⟨k + 1, by go_num, by omega, hE⟩
                        case measure => simp [intOf]; omega
                    · have hE := Lib.hid HWJ.out
                      clear hWj
                      go_wp2_with fail
                      go_roundw
                      case rel => exact ⟨k + 1, by go_num, by omega, hE⟩
                      case measure => simp [intOf]; omega
          · skip
            go_wp2_with fail
            refine (lives30_any _).mono ?_
            rintro e w3 ⟨rfl, hb3⟩
            have HB3 : Hid (Below w.heap.size w w3) := Lib.hid (hW.out.trans (hb3.mono hW.out.size))
            clear hb3
            go_wp2_with fail
            go_ret
            exact ⟨rfl, HB3.out⟩
        · skip
          go_wp2_with fail
          refine (lives30_any _).mono ?_
          rintro e w3 ⟨rfl, hb3⟩
          have HB3 : Hid (Below w.heap.size w w3) := Lib.hid (hW.out.trans (hb3.mono hW.out.size))
          clear hb3
          go_wp2_with fail
          go_ret
          exact ⟨rfl, HB3.out⟩
    · have HE := Lib.hid h
      clear h
      go_enter Try.func7, Try.ntmps7
      go_wp2_with fail
      refine HSZ.out.mono ?_
      rintro e w' ⟨rfl, rfl⟩
      go_wp2_with fail
      refine (beyond_any w.heap.size 0 1 (asizeV l) HLE.out.1 HLE.out.2 _ (by simp)).mono ?_
      rintro e w' ⟨rfl, rfl⟩
      rw [HBY.out]
      go_wp2_with fail
      refine (HCK.out _ ((Below.refl _ _).alloc (Nat.le_refl _) _)).mono ?_
      rintro e w1 ⟨rfl, hb1⟩
      have HB1 : Hid (Below w.heap.size w w1) := Lib.hid (((Below.refl _ _).alloc (Nat.le_refl _) _).trans (hb1.mono (by simp)))
      clear hb1
      rw [HE.out]
      go_wp2_with fail
      refine (lives30_any _).mono ?_
      rintro e w3 ⟨rfl, hb3⟩
      have HB3 : Hid (Below w.heap.size w w3) := Lib.hid (HB1.out.trans (hb3.mono HB1.out.size))
      clear hb3
      go_wp2_with fail
      go_ret
      exact ⟨rfl, HB3.out⟩
    · have HE := Lib.hid h
      clear h
      go_enter Try.func7, Try.ntmps7
      go_wp2_with fail
      refine HSZ.out.mono ?_
      rintro e w' ⟨rfl, rfl⟩
      go_wp2_with fail
      refine (beyond_any w.heap.size 0 1 (asizeV l) HLE.out.1 HLE.out.2 _ (by simp)).mono ?_
      rintro e w' ⟨rfl, rfl⟩
      rw [HBY.out]
      go_wp2_with fail
      refine (HCK.out _ ((Below.refl _ _).alloc (Nat.le_refl _) _)).mono ?_
      rintro e w1 ⟨rfl, hb1⟩
      have HB1 : Hid (Below w.heap.size w w1) := Lib.hid (((Below.refl _ _).alloc (Nat.le_refl _) _).trans (hb1.mono (by simp)))
      clear hb1
      rw [HE.out]
      go_wp2_with fail
      refine (lives30_any _).mono ?_
      rintro e w3 ⟨rfl, hb3⟩
      have HB3 : Hid (Below w.heap.size w w3) := Lib.hid (HB1.out.trans (hb3.mono HB1.out.size))
      clear hb3
      go_wp2_with fail
      go_ret
      exact ⟨rfl, HB3.out⟩
    · have HE := Lib.hid h
      clear h
      go_enter Try.func7, Try.ntmps7
      go_wp2_with fail
      refine HSZ.out.mono ?_
      rintro e w' ⟨rfl, rfl⟩
      go_wp2_with fail
      refine (beyond_any w.heap.size 0 1 (asizeV l) HLE.out.1 HLE.out.2 _ (by simp)).mono ?_
      rintro e w' ⟨rfl, rfl⟩
      rw [HBY.out]
      go_wp2_with fail
      refine (HCK.out _ ((Below.refl _ _).alloc (Nat.le_refl _) _)).mono ?_
      rintro e w1 ⟨rfl, hb1⟩
      have HB1 : Hid (Below w.heap.size w w1) := Lib.hid (((Below.refl _ _).alloc (Nat.le_refl _) _).trans (hb1.mono (by simp)))
      clear hb1
      rw [HE.out]
      go_wp2_with fail
      refine (lives30_any _).mono ?_
      rintro e w3 ⟨rfl, hb3⟩
      have HB3 : Hid (Below w.heap.size w w3) := Lib.hid (HB1.out.trans (hb3.mono HB1.out.size))
      clear hb3
      go_wp2_with fail
      go_ret
      exact ⟨rfl, HB3.out⟩
end Go.Proofs.Ytjaegddnikkibaa
