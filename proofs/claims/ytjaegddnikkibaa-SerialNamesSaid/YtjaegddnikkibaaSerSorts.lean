/-
  SerialSorts walked.
-/
import Derived.Test.YtjaegddnikkibaaOpFirst
import Derived.Test.YtjaegddnikkibaaSerReads
import Derived.Test.YtjaegddnikkibaaSerPick
import Derived.Test.YtjaegddnikkibaaSameCells
set_option linter.unusedVariables false
set_option linter.unusedSimpArgs false
namespace Go.Proofs.Ytjaegddnikkibaa
open Go.RowKit Go.Sort Go.Maps

theorem own_ne {w : World} {B1 B2 e1 e2 k1 k2 n1 n2 : Nat} {v1 v2 : Value} {x1 x2 : List Value} (h1 : w.ownsRow B1 e1 k1 v1 n1 x1) (h2 : w.ownsRow B2 e2 k2 v2 n2 x2) (hne : e1 ≠ e2) : ∀ g, v1.ownBlock = some g → v2.ownBlock ≠ some g := by
  intro g hg1 hg2
  rcases h1.2 with ⟨rfl, -⟩ | ⟨g1, cap1, cur1, rfl, -, hb1, -⟩
  · cases hg1
  rcases h2.2 with ⟨rfl, -⟩ | ⟨g2, cap2, cur2, rfl, -, hb2, -⟩
  · cases hg2
  injection hg1 with hg1
  injection hg2 with hg2
  subst hg1; subst hg2
  rw [hb1] at hb2
  injection hb2 with hb2
  injection hb2 with _ hb2
  exact hne hb2
theorem own_keptBy {w w' : World} {B e k n : Nat} {v : Value} {xs : List Value} {row : Option Nat} (h : w.ownsRow B e k v n xs) (hg : w.grownBy w' row) (hne : ∀ g, v.ownBlock = some g → row ≠ some g) : w'.ownsRow B e k v n xs :=
  h.kept hg (by
    cases hob : v.ownBlock with
    | none => exact Or.inl rfl
    | some g => exact Or.inr (fun e => hne g hob e.symm))
theorem intsAt_own {w : World} {base : Nat} {v : Value} {o : List Int} (h : w.ownsRow base 3 1 v o.length (o.map (Value.int .i64))) : ∃ A c, v = .slice A o.length c ∧ IntsAt w A o := by
  rcases h.2 with ⟨rfl, hn⟩ | ⟨g, cap, cur, rfl, hg, hb, r⟩
  · have : o = [] := List.eq_nil_of_length_eq_zero hn
    subst this
    exact ⟨none, 0, rfl, fun h => absurd rfl h⟩
  · refine ⟨some ⟨g, 0, none⟩, cap, rfl, fun _ => ⟨g, 0, rfl, (Array.getElem?_eq_some_iff.1 hb).1, fun k x hk => ?_⟩⟩
    have hlt : k < o.length := (List.getElem?_eq_some_iff.1 hk).1
    rw [Nat.zero_add, h.cellAt k (by omega), List.getElem?_map, hk]; rfl

set_option maxHeartbeats 4000000 in
set_option maxRecDepth 100000 in
theorem serialSorts_walk (hs : SortsCells) (A : Option Addr) (c : Nat) (l : List Att) (w : World) (hl : l.length ≤ 35184372088832) (hO : ∀ x ∈ l, x.Ok) (ha : AttsAt w w.heap.size A l) :
    Calls Try.prog 8 #[.slice A l.length c] w fun e w' => e = .returned (.bool true) ∧ Below w.heap.size w w' := by
  have HSZ := Lib.hid (asize_any A c _ l hl (fun x hx => (hO x hx).len) w ha)
  have HLE := Lib.hid (asizeV_le l)
  by_cases hby : 262144 < asizeV l
  · have HBY : Hid (decide (262144 < asizeV l) = true) := Lib.hid (by simpa using hby)
    have HBE := Lib.hid (fun o => (Below.refl w.heap.size w).alloc (Nat.le_refl _) o)
    clear ha hO hby
    go_enter Try.func8, Try.ntmps8
    go_wp2_with fail
    refine HSZ.out.mono ?_
    rintro e w' ⟨rfl, rfl⟩
    go_wp2_with fail
    refine (beyond_any w.heap.size 0 1 (asizeV l) HLE.out.1 HLE.out.2 _ (by simp)).mono ?_
    rintro e w' ⟨rfl, rfl⟩
    rw [HBY.out]
    go_wp2_with fail
    go_ret
    exact ⟨rfl, HBE.out _⟩
  · have HBY : Hid (decide (262144 < asizeV l) = false) := Lib.hid (by simpa using hby)
    have hts : totalSize l ≤ 262144 := by
      have := mt (asizeV_total l).2 hby
      omega
    have hln := Nat.le_trans (length_le_total l) hts
    have HA := Lib.hid (fun W (h : Below w.heap.size w W) => ha.keep h (Nat.le_refl _))
    have HOK := Lib.hid hO
    have HOR := Lib.hid (fun W (h : Below w.heap.size w W) => order_any A c l (by omega) hO W (ha.keep h h.size))
    have HBE := Lib.hid (fun o => (Below.refl w.heap.size w).alloc (Nat.le_refl _) o)
    clear hby hl
    by_cases hck : checkedV l = 0
    · have HK := Lib.hid hck
      obtain ⟨s, hs0⟩ : ∃ s, pick allQ l = s := ⟨_, rfl⟩
      obtain ⟨o, ho0⟩ : ∃ o, orderV l = o := ⟨_, rfl⟩
      obtain ⟨p, hp0⟩ : ∃ p, orderV s = p := ⟨_, rfl⟩
      obtain ⟨ws, hw0⟩ : ∃ ws, wasL allQ 0 l = ws := ⟨_, rfl⟩
      obtain ⟨L, hL0⟩ : ∃ L, scheckV l = L := ⟨_, rfl⟩
      obtain ⟨S, hS0⟩ : ∃ S, scheckV s = S := ⟨_, rfl⟩
      have hos : o.length = s.length := by rw [← ho0, ← hs0]; exact order_all_len l
      have hps : p.length = o.length := by rw [← hp0, ← ho0, ← hs0, ← order_all l, List.length_map]
      have hwl : ws.length = o.length := by rw [← hw0, wasL_len, hs0, hos]
      have hsl : s.length ≤ 262144 := by
        have := List.length_filter_le (pickB allQ) l
        rw [← hs0]; unfold pick; omega
      have hsO : ∀ x ∈ s, x.Ok := fun x hx => hO x (by rw [← hs0] at hx; exact (pick_kd hx).1)
      have hscl : checkedV s = 0 := by rw [← hs0]; exact checkedV_pick allQ hck
      have HSK := Lib.hid hscl
      have HO2 : Hid (∀ A2 c2 W, AttsAt W W.heap.size A2 s → Calls Try.prog 13 #[.slice A2 o.length c2] W (OrdOut s W)) := Lib.hid (fun A2 c2 W h => by rw [hos]; exact order_any A2 c2 s (by omega) hsO W h)
      have HCK : Hid (∀ W, Below w.heap.size w W → Calls Try.prog 12 #[.slice A l.length c] W fun e w' => e = .returned (.tuple #[.int .i64 L.1, .int .i64 L.2]) ∧ Below W.heap.size W w') := Lib.hid (fun W h => by rw [← hL0]; exact scheck_any A c l (by omega) hO W (ha.keep h h.size))
      have HCK2 : Hid (∀ A2 c2 W, AttsAt W W.heap.size A2 s → Calls Try.prog 12 #[.slice A2 o.length c2] W fun e w' => e = .returned (.tuple #[.int .i64 S.1, .int .i64 S.2]) ∧ Below W.heap.size W w') := Lib.hid (fun A2 c2 W h => by rw [hos, ← hS0]; exact scheck_any A2 c2 s (by omega) hsO W h)
      have HPICK : Hid (∀ i (hi : i < o.length), ∃ j : Nat, p[i]? = some (j : Int) ∧ j < o.length ∧ ws[j]? = some o[i]) := Lib.hid (fun i hi => by
        subst ho0; subst hs0; subst hp0; subst hw0
        obtain ⟨j, ⟨hp, hj⟩, hjl, hj2⟩ := order_all_at hi
        exact ⟨j, by rw [List.getElem?_eq_getElem hp, hj], by omega, hj2⟩)
      have HPL : Hid (∀ i (hi : i + 1 < o.length), ∃ a b : Nat, o[i]? = some (a : Int) ∧ o[i + 1]? = some (b : Int) ∧ ∃ x y, l[a]? = some x ∧ l[b]? = some y ∧ x.pl ≤ y.pl) := Lib.hid (fun i hi => by
        subst ho0
        have hi' : i < (orderV l).length := by omega
        have h1 : (attN l (orderV l)[i]).pl ≤ (attN l (orderV l)[i + 1]).pl := order_places (Nat.succ_pos i) hi
        obtain ⟨a, ha1, ha2⟩ := orderV_idx (List.getElem_mem hi')
        obtain ⟨b, hb1, hb2⟩ := orderV_idx (List.getElem_mem hi)
        rw [ha1, hb1, attN_get ha2, attN_get hb2] at h1
        exact ⟨a, b, by rw [List.getElem?_eq_getElem hi', ha1], by rw [List.getElem?_eq_getElem hi, hb1], _, _, List.getElem?_eq_getElem ha2, List.getElem?_eq_getElem hb2, h1⟩)
      obtain ⟨hE1, hE2⟩ := scheck_all hck
      rw [hs0, hS0, hL0] at hE1
      rw [hs0, hS0, hL0, hw0] at hE2
      have HE2 : Hid (L.2 = 16 → ∃ j : Nat, S.1 = (j : Int) ∧ j < o.length ∧ ws[j]? = some L.1) := Lib.hid (fun h => by
        obtain ⟨j, h1, h2, h3⟩ := hE2 h
        exact ⟨j, h1, by omega, h3⟩)
      have HEK : Hid (L.2 = 0 ∨ L.2 = 16) := Lib.hid (by rw [← hL0]; exact (scheckV_kinds l).1 hck)
      have HSE := Lib.hid hE1
      have hC1 : ∃ f, WordsIs [] f → True := ⟨fun _ => none, fun _ => trivial⟩
      have HWL : Hid (∀ W, Below w.heap.size w W → Calls Try.prog 26 #[.slice A l.length c] W (WordsOut l W)) := Lib.hid (fun W h => words_any hs A c l (by omega) hO W (ha.keep h h.size))
      have HW2 : Hid (∀ A2 c2 W, AttsAt W W.heap.size A2 s → Calls Try.prog 26 #[.slice A2 o.length c2] W (WordsOut s W)) := Lib.hid (fun A2 c2 W h => by rw [hos]; exact words_any hs A2 c2 s (by omega) hsO W h)
      have HWEQ : Hid (∀ cs cs', WordsIs cs (allK l (orderV l)) → WordsIs cs' (allK s (orderV s)) → cs' = cs) := Lib.hid (fun cs cs' h1 h2 => wordsIs_unique (by rw [← hs0, words_all] at h2; exact h2) h1)
      have HT : Hid (∀ m (h : m < l.length), pick allQ (l.take (m + 1)) = pick allQ (l.take m) ++ (if l[m].kd = 1 then [l[m]] else []) ∧ wasL allQ 0 (l.take (m + 1)) = wasL allQ 0 (l.take m) ++ (if l[m].kd = 1 then [(m : Int)] else [])) := Lib.hid (fun m h => by
        rw [pick_take h, wasL_take h]
        unfold pickB allQ
        simp)
      have HLEN : Hid (∀ m, (pick allQ (l.take m)).length ≤ 262144 ∧ (wasL allQ 0 (l.take m)).length ≤ 262144) := Lib.hid (fun m => by
        have h1 := List.length_filter_le (pickB allQ) (l.take m)
        have h2 : (l.take m).length ≤ l.length := by rw [List.length_take]; omega
        refine ⟨by unfold pick; omega, by rw [wasL_len]; unfold pick; omega⟩)
      have HEND : Hid (pick allQ (l.take l.length) = s ∧ wasL allQ 0 (l.take l.length) = ws) := Lib.hid (by rw [List.take_length]; exact ⟨hs0, hw0⟩)
      have HSL := Lib.hid (show s.length = o.length ∧ ws.length = o.length ∧ p.length = o.length ∧ o.length ≤ 262144 from ⟨hos.symm, hwl, hps, by omega⟩)
      have HMEM : Hid (∀ x ∈ s, x ∈ l) := Lib.hid (fun x hx => by rw [← hs0] at hx; exact (pick_kd hx).1)
      have HORD : Hid (orderV l = o ∧ orderV s = p) := Lib.hid ⟨ho0, hp0⟩
      obtain ⟨i0, hi0, hz0, hz1, hz2⟩ := info_parts attInfo
      obtain ⟨i1, hj0, hy0, hy1, hy2⟩ := info_parts info_int
      obtain ⟨L1, L2⟩ := L
      obtain ⟨S1, S2⟩ := S
      dsimp only at *
      clear hC1 hs ha hO hck hs0 ho0 hp0 hw0 hL0 hS0 hos hps hwl hsl hsO hscl hE1 hE2
      go_enter Try.func8, Try.ntmps8
      go_wp2_with fail
      refine HSZ.out.mono ?_
      rintro e w' ⟨rfl, rfl⟩
      go_wp2_with fail
      refine (beyond_any w.heap.size 0 1 (asizeV l) HLE.out.1 HLE.out.2 _ (by simp)).mono ?_
      rintro e w' ⟨rfl, rfl⟩
      rw [HBY.out]
      go_wp2_with fail
      refine (HOR.out _ (HBE.out _)).mono ?_
      rintro e w1 ⟨hb1, ⟨hbad, -⟩ | ⟨-, OA, oc, rfl, hI⟩⟩
      · exact absurd HK.out hbad
      rw [HORD.out.1] at hI ⊢
      have HB1 := Lib.hid ((HBE.out _).trans (hb1.mono (HBE.out _).size))
      have HI := Lib.hid (fun W (h : Below w1.heap.size w1 W) => hI.keep h)
      clear hb1 hI
      go_wp2_with fail
      go_loopw [5, 6, 7] (fun u v i wr => ∃ m : Nat, i = .int .i64 m ∧ m ≤ l.length ∧ Hid (wr.ownsRow w1.heap.size 35 8 u (pick allQ (l.take m)).length ((pick allQ (l.take m)).flatMap Att.cells)) ∧ Hid (wr.ownsRow w1.heap.size 3 1 v (wasL allQ 0 (l.take m)).length ((wasL allQ 0 (l.take m)).map (Value.int .i64))) ∧ Hid (Below w1.heap.size w1 wr)) (fun _ _ i _ => l.length - (intOf i).toNat)
      case atStart => exact ⟨0, rfl, Nat.zero_le _, Lib.hid (World.ownsRow_nil _ _ _ _), Lib.hid (World.ownsRow_nil _ _ _ _), Lib.hid (Below.refl _ _)⟩
      case round =>
        obtain ⟨m, rfl, hm, hown, hwas, hW⟩ := hrel
        have HW := Lib.hid (HB1.out.trans (hW.out.mono HB1.out.size))
        have hsr : w1.heap.size ≤ wr.heap.size := hW.out.size
        by_cases hml : m < l.length
        · obtain ⟨b, off, rfl, hbl, hc⟩ := (HA.out _ HW.out).row (by rintro rfl; simp at hml)
          obtain ⟨c0, c1, c2, c3, c4, c5, c6, c7⟩ := hc m _ (List.getElem?_eq_getElem hml)
          have hT := Lib.hid (HT.out m hml)
          have hLN := Lib.hid (HLEN.out m)
          have p5 : (m : Int) < (l.length : Int) := by omega
          have p6 : (0 : Int) ≤ (m : Int) := Int.natCast_nonneg _
          clear hc
          generalize l[m] = x at *
          obtain ⟨xth, xkd, xbg, xen, xck, xpl, xwt, xdA, xdc, xevs⟩ := x
          dsimp only at c0 c1 c2 c3 c4 c5 c6 c7
          by_cases hx1 : xkd = 1
          · have s1 : (xkd == 1) = true := by simpa using hx1
            have s2 : decide (xkd = 1) = true := by simpa using hx1
            have hT1 : Hid (pick allQ (l.take (m + 1)) = pick allQ (l.take m) ++ [⟨xth, xkd, xbg, xen, xck, xpl, xwt, xdA, xdc, xevs⟩] ∧ wasL allQ 0 (l.take (m + 1)) = wasL allQ 0 (l.take m) ++ [(m : Int)]) := Lib.hid (by
              have := hT.out
              rw [if_pos hx1, if_pos hx1] at this
              exact this)
            clear hx1 hT
            go_wp2_with (at_builtin; refine wpList_append_own _ rfl _ _ 22 rfl w1.heap.size 35 i0 _ 8 80 Try.underlying22 hi0 hz0 hz1 hz2 rfl (by decide) _ _ _ rfl (hown.out.alloc _) ⟨wr.heap.size, 0, none⟩ 1 1 [.int .i64 xth, .int .u8 xkd, .int .i64 xbg, .int .i64 xen, .int .i64 xck, .int .i64 xpl, .bool xwt, .slice xdA xevs.length xdc] rfl rfl (World.news_of_block (cs := #[.int .i64 xth, .int .u8 xkd, .int .i64 xbg, .int .i64 xen, .int .i64 xck, .int .i64 xpl, .bool xwt, .slice xdA xevs.length xdc]) (t := 35) (fr := (0, 0)) (heap_alloc_new _ _)) (by simp [Value.oneCell']) (by have := hLN.out; unfold maxLen; omega) (by have := hLN.out; omega) (by simp; omega) ?_)
            intro v' w3 hown' hgrow hnil'
            have hB3 : Hid (Below w1.heap.size w1 w3) := Lib.hid ((hW.out.alloc hsr _).grown hgrow (by simp; omega) (fun kk h => (hown.out.lt kk h).1))
            have hown3 : Hid (w3.ownsRow w1.heap.size 35 8 v' (pick allQ (l.take (m + 1))).length ((pick allQ (l.take (m + 1))).flatMap Att.cells)) := Lib.hid (by
              rw [hT1.out.1, List.length_append, List.flatMap_append]; exact hown')
            have hwas3 : Hid (w3.ownsRow w1.heap.size 3 1 u6 (wasL allQ 0 (l.take m)).length ((wasL allQ 0 (l.take m)).map (Value.int .i64))) := Lib.hid (own_keptBy (hwas.out.alloc _) hgrow (own_ne hwas.out hown.out (by decide)))
            have hsr3 : w1.heap.size ≤ w3.heap.size := hB3.out.size
            clear hown' hgrow hnil' hown hwas hW HW c0 c1 c2 c3 c4 c5 c6 c7
            go_wp2_with (at_builtin; refine wpList_append_own _ rfl _ _ 28 rfl w1.heap.size 3 i1 (.int .i64 0) 1 8 Try.underlying28 hj0 hy0 hy1 hy2 rfl (by decide) _ _ _ rfl (hwas3.out.alloc _) ⟨w3.heap.size, 0, none⟩ 1 1 [.int .i64 m] rfl rfl (World.news_of_block (cs := #[.int .i64 m]) (t := 3) (fr := (0, 0)) (heap_alloc_new _ _)) (by simp [Value.oneCell']) (by have := hLN.out; unfold maxLen; omega) (by have := hLN.out; omega) (by simp; omega) ?_)
            intro v2 w4 hown' hgrow hnil'
            have hB4 : Hid (Below w1.heap.size w1 w4) := Lib.hid ((hB3.out.alloc hsr3 _).grown hgrow (by simp; omega) (fun kk h => (hwas3.out.lt kk h).1))
            have hwas4 : Hid (w4.ownsRow w1.heap.size 3 1 v2 (wasL allQ 0 (l.take (m + 1))).length ((wasL allQ 0 (l.take (m + 1))).map (Value.int .i64))) := Lib.hid (by
              rw [hT1.out.2, List.length_append, List.map_append]; exact hown')
            have hown4 : Hid (w4.ownsRow w1.heap.size 35 8 v' (pick allQ (l.take (m + 1))).length ((pick allQ (l.take (m + 1))).flatMap Att.cells)) := Lib.hid (own_keptBy (hown3.out.alloc _) hgrow (own_ne hown3.out hwas3.out (by decide)))
            clear hown' hgrow hnil' hown3 hwas3 hB3 hT1 hLN
            go_wp2_with fail
            go_roundw
            case rel => exact ⟨m + 1, by go_num, by omega, hown4, hwas4, hB4⟩
            case measure => simp [intOf]; omega
          · have s1 : (xkd == 1) = false := by simpa using hx1
            have s2 : decide (xkd = 1) = false := by simpa using hx1
            have hT1 : Hid (pick allQ (l.take (m + 1)) = pick allQ (l.take m) ∧ wasL allQ 0 (l.take (m + 1)) = wasL allQ 0 (l.take m)) := Lib.hid (by
              have := hT.out
              rw [if_neg hx1, if_neg hx1, List.append_nil, List.append_nil] at this
              exact this)
            clear hx1 hT
            go_wp2_with fail
            go_roundw
            case rel => exact ⟨m + 1, by go_num, by omega, Lib.hid (by rw [hT1.out.1]; exact hown.out), Lib.hid (by rw [hT1.out.2]; exact hwas.out), hW⟩
            case measure => simp [intOf]; omega
        · obtain rfl : m = l.length := by omega
          rw [HEND.out.1] at hown
          rw [HEND.out.2] at hwas
          have hEV : Hid (∀ x ∈ s, EvsAt wr wr.heap.size x.dA x.evs) := Lib.hid (fun x hx => ((HA.out _ HW.out).evs x (HMEM.out x hx)).keep (Below.refl _ _) HW.out.size)
          obtain ⟨A2, c2, rfl, hA2⟩ := attsAt_own hown.out hEV.out
          obtain ⟨WA, wc, rfl, hWA⟩ := intsAt_own hwas.out
          obtain ⟨wS, rfl⟩ : ∃ wS : World, wS = wr := ⟨_, rfl⟩
          have HA2 := Lib.hid (fun W (h : Below wS.heap.size wS W) => hA2.keep h h.size)
          have HWA := Lib.hid (fun W (h : Below wS.heap.size wS W) => hWA.keep h)
          have HI2 := Lib.hid (fun W (h : Below wS.heap.size wS W) => HI.out W (hW.out.trans (h.mono hW.out.size)))
          have HBS := Lib.hid (fun W (h : Below wS.heap.size wS W) => HW.out.trans (h.mono HW.out.size))
          have hLs := HSL.out.1
          have hLw := HSL.out.2.1
          have hLo := HSL.out.2.2.2
          rw [hLs, hLw]
          clear hLs hLw hown hwas hEV hA2 hWA HEND HLEN HT HW hW
          go_wp2_with fail
          refine (HO2.out _ _ _ (HA2.out _ (Below.refl _ _))).mono ?_
          rintro e w3 ⟨hb3, ⟨hbad, -⟩ | ⟨-, PA, pc, rfl, hP⟩⟩
          · exact absurd HSK.out hbad
          rw [HORD.out.2] at hP ⊢
          rw [HSL.out.2.2.1]
          have HS3 := Lib.hid hb3
          have HP := Lib.hid (fun W (h : Below w3.heap.size w3 W) => hP.keep h)
          clear hb3 hP
          go_wp2_with fail
          go_loopw [10] (fun i wr => ∃ n : Nat, i = .int .i64 n ∧ n ≤ o.length ∧ Hid (Below w3.heap.size w3 wr)) (fun i _ => o.length - (intOf i).toNat)
          case atStart => exact ⟨0, rfl, Nat.zero_le _, Lib.hid (Below.refl _ _)⟩
          case round =>
            obtain ⟨n, rfl, hn, hW3⟩ := hrel
            have HS := Lib.hid (HS3.out.trans (hW3.out.mono HS3.out.size))
            by_cases hlt : n < o.length
            · obtain ⟨j, hj1, hj2, hj3⟩ := HPICK.out n hlt
              obtain ⟨g1, o1, rfl, -, k1⟩ := HP.out _ hW3.out (by rintro rfl; simp at hj1)
              obtain ⟨g2, o2, rfl, -, k2⟩ := HWA.out _ HS.out (by rintro rfl; simp at hj3)
              obtain ⟨g3, o3, rfl, -, k3⟩ := HI2.out _ HS.out (by rintro rfl; simp at hlt)
              have e1 := k1 n _ hj1
              have p1 : (n : Int) < (o.length : Int) := by omega
              have p2 : (0 : Int) ≤ (n : Int) := Int.natCast_nonneg _
              have p3 : (j : Int) < (o.length : Int) := by omega
              have p4 : (0 : Int) ≤ (j : Int) := Int.natCast_nonneg _
              have t1 : decide ((j : Int) < 0) = false := by simp
              have t2 : decide ((o.length : Int) ≤ (j : Int)) = false := by simp; omega
              have hE := Lib.hid (fun q1 => below_drewN hW3.out q1)
              by_cases h0 : n = 0
              · have t3 : decide (0 < (n : Int)) = false := by simp; omega
                have t3n : decide (0 < n) = false := by simp; omega
                have e2 := k2 j _ hj3
                have e3 := k3 n _ (List.getElem?_eq_getElem hlt)
                clear k1 k2 k3 hj1 hj3 hW3 h0
                generalize o[n] = oi at *
                go_wp2_with fail
                go_quiet (fail)
                go_wp2_with fail
                go_quiet (fail)
                go_wp2_with fail
                go_roundw
                case rel => exact ⟨n + 1, by go_num, by omega, Lib.hid (hE.out _)⟩
                case measure => simp [intOf]; omega
              · obtain ⟨m, hm⟩ : ∃ m, n = m + 1 := ⟨n - 1, by omega⟩
                obtain ⟨a, bb, ha, hb, x, y, hx, hy, hxy⟩ := HPL.out m (by omega)
                rw [← hm] at hb
                have hob : o[n] = (bb : Int) := by
                  have := List.getElem?_eq_getElem hlt
                  rw [hb] at this; injection this with this; exact this.symm
                rw [hob] at hj3
                have e2 := k2 j _ hj3
                have e3 := k3 n _ hb
                have e4 := k3 m _ ha
                obtain ⟨b, off, rfl, -, kc⟩ := (HA.out _ (HBS.out _ HS.out)).row (by rintro rfl; simp at hx)
                have e5 := (kc a _ hx).c5
                have e6 := (kc bb _ hy).c5
                have q1 : (a : Int) < (l.length : Int) := by have := (List.getElem?_eq_some_iff.1 hx).1; omega
                have q2 : (0 : Int) ≤ (a : Int) := Int.natCast_nonneg _
                have q3 : (bb : Int) < (l.length : Int) := by have := (List.getElem?_eq_some_iff.1 hy).1; omega
                have q4 : (0 : Int) ≤ (bb : Int) := Int.natCast_nonneg _
                have hw : IntKind.i64.wrap ((n : Int) - 1) = (m : Int) := by rw [IntKind.wrap_i64]; omega
                have q5 : (m : Int) < (o.length : Int) := by omega
                have q6 : (0 : Int) ≤ (m : Int) := Int.natCast_nonneg _
                have t3 : decide (0 < (n : Int)) = true := by simp; omega
                have t3n : decide (0 < n) = true := by simp; omega
                have t4 : decide (y.pl < x.pl) = false := by simp; omega
                generalize x.pl = xp at *
                generalize y.pl = yp at *
                clear k1 k2 k3 kc hj1 hj3 hW3 hob ha hb hx hy hxy hm h0
                go_wp2_with fail
                go_quiet (fail)
                go_wp2_with fail
                go_quiet (fail)
                go_wp2_with fail
                go_roundw
                case rel => exact ⟨n + 1, by go_num, by omega, Lib.hid (hE.out _)⟩
                case measure => simp [intOf]; omega
            · obtain rfl : n = o.length := by omega
              have HS3' := Lib.hid HS.out
              have HB3 := Lib.hid (HBS.out _ HS.out)
              clear hW3 HS
              go_wp2_with fail
              refine (HCK.out _ HB3.out).mono ?_
              rintro e w5 ⟨rfl, hb5⟩
              have HB5 := Lib.hid (HB3.out.trans (hb5.mono HB3.out.size))
              have HS5 := Lib.hid (HS3'.out.trans (hb5.mono HS3'.out.size))
              clear hb5
              go_wp2_with fail
              refine (HCK2.out _ _ _ (HA2.out _ HS5.out)).mono ?_
              rintro e w6 ⟨rfl, hb6⟩
              have HB6 := Lib.hid (HB5.out.trans (hb6.mono HB5.out.size))
              have HS6 := Lib.hid (HS5.out.trans (hb6.mono HS5.out.size))
              clear hb6
              have hse := HSE.out
              rcases HEK.out with h | h
              · subst h
                subst hse
                clear HE2
                go_wp2_with fail
                refine (HWL.out _ HB6.out).mono ?_
                rintro e w7 ⟨hb7, ⟨hbad, -⟩ | ⟨-, B1, k1, cs, rfl, hI1, hC1, hn1⟩⟩
                · exact absurd HK.out hbad
                have HB7 : Hid (Below w.heap.size w w7) := Lib.hid (HB6.out.trans (hb7.mono HB6.out.size))
                have HS7 : Hid (Below wS.heap.size wS w7) := Lib.hid (HS6.out.trans (hb7.mono HS6.out.size))
                have HC1 := Lib.hid (fun W (h : Below w7.heap.size w7 W) => hC1.keep h)
                clear hb7 hC1
                go_wp2_with fail
                refine (HW2.out _ _ _ (HA2.out _ HS7.out)).mono ?_
                rintro e w8 ⟨hb8, ⟨hbad, -⟩ | ⟨-, B2, k2, cs2, rfl, hI2, hC2, -⟩⟩
                · exact absurd HSK.out hbad
                obtain rfl := HWEQ.out _ _ hI1 hI2
                have HB8 : Hid (Below w.heap.size w w8) := Lib.hid (HB7.out.trans (hb8.mono HB7.out.size))
                have HSC := Lib.hid (sameCells_any B1 B2 k1 k2 _ w8 hn1 (HC1.out _ hb8) hC2)
                clear hb8 hC2 HC1 HS7 HB7 hI1 hI2
                go_wp2_with fail
                refine HSC.out.mono ?_
                rintro e w0 ⟨rfl, hb0⟩
                have HB0 : Hid (Below w.heap.size w w0) := Lib.hid (HB8.out.trans (hb0.mono HB8.out.size))
                clear hb0 HSC HB8
                go_wp2_with fail
                refine (lives29_any _).mono ?_
                rintro e w9 ⟨rfl, hb9⟩
                have HB9 : Hid (Below w.heap.size w w9) := Lib.hid (HB0.out.trans (hb9.mono HB0.out.size))
                clear hb9
                go_wp2_with fail
                go_ret
                exact ⟨rfl, HB9.out⟩
              · subst h
                subst hse
                obtain ⟨j, rfl, hj2, hj3⟩ := HE2.out rfl
                obtain ⟨g2, o2, rfl, -, k2⟩ := HWA.out _ HS6.out (by rintro rfl; simp at hj3)
                have e2 := k2 j _ hj3
                have p3 : (j : Int) < (o.length : Int) := by omega
                have p4 : (0 : Int) ≤ (j : Int) := Int.natCast_nonneg _
                have t1 : decide ((j : Int) < 0) = false := by simp
                have t2 : decide ((o.length : Int) ≤ (j : Int)) = false := by simp; omega
                have t2n : decide (o.length ≤ j) = false := by simp; omega
                clear k2 hj3
                go_wp2_with fail
                refine (HWL.out _ HB6.out).mono ?_
                rintro e w7 ⟨hb7, ⟨hbad, -⟩ | ⟨-, B1, k1, cs, rfl, hI1, hC1, hn1⟩⟩
                · exact absurd HK.out hbad
                have HB7 : Hid (Below w.heap.size w w7) := Lib.hid (HB6.out.trans (hb7.mono HB6.out.size))
                have HS7 : Hid (Below wS.heap.size wS w7) := Lib.hid (HS6.out.trans (hb7.mono HS6.out.size))
                have HC1 := Lib.hid (fun W (h : Below w7.heap.size w7 W) => hC1.keep h)
                clear hb7 hC1
                go_wp2_with fail
                refine (HW2.out _ _ _ (HA2.out _ HS7.out)).mono ?_
                rintro e w8 ⟨hb8, ⟨hbad, -⟩ | ⟨-, B2, k2, cs2, rfl, hI2, hC2, -⟩⟩
                · exact absurd HSK.out hbad
                obtain rfl := HWEQ.out _ _ hI1 hI2
                have HB8 : Hid (Below w.heap.size w w8) := Lib.hid (HB7.out.trans (hb8.mono HB7.out.size))
                have HSC := Lib.hid (sameCells_any B1 B2 k1 k2 _ w8 hn1 (HC1.out _ hb8) hC2)
                clear hb8 hC2 HC1 HS7 HB7 hI1 hI2
                go_wp2_with fail
                refine HSC.out.mono ?_
                rintro e w0 ⟨rfl, hb0⟩
                have HB0 : Hid (Below w.heap.size w w0) := Lib.hid (HB8.out.trans (hb0.mono HB8.out.size))
                clear hb0 HSC HB8
                go_wp2_with fail
                refine (lives29_any _).mono ?_
                rintro e w9 ⟨rfl, hb9⟩
                have HB9 : Hid (Below w.heap.size w w9) := Lib.hid (HB0.out.trans (hb9.mono HB0.out.size))
                clear hb9
                go_wp2_with fail
                go_ret
                exact ⟨rfl, HB9.out⟩
    · have HK := Lib.hid hck
      have hkd : checkedV l = 3 ∨ checkedV l = 15 := checked_kinds l hck
      clear ha hO hck
      rcases hkd with hkd | hkd
      · have HKV := Lib.hid hkd
        clear hkd
        go_enter Try.func8, Try.ntmps8
        go_wp2_with fail
        refine HSZ.out.mono ?_
        rintro e w' ⟨rfl, rfl⟩
        go_wp2_with fail
        refine (beyond_any w.heap.size 0 1 (asizeV l) HLE.out.1 HLE.out.2 _ (by simp)).mono ?_
        rintro e w' ⟨rfl, rfl⟩
        rw [HBY.out]
        go_wp2_with fail
        refine (HOR.out _ (HBE.out _)).mono ?_
        rintro e w1 ⟨hb1, ⟨-, rfl⟩ | ⟨hgood, -⟩⟩
        · have HB1 := Lib.hid ((HBE.out _).trans (hb1.mono (HBE.out _).size))
          clear hb1
          rw [HKV.out]
          go_wp2_with fail
          refine (lives29_any _).mono ?_
          rintro e w9 ⟨rfl, hb9⟩
          have HB9 : Hid (Below w.heap.size w w9) := Lib.hid (HB1.out.trans (hb9.mono HB1.out.size))
          clear hb9
          go_wp2_with fail
          go_ret
          exact ⟨rfl, HB9.out⟩
        · exact absurd hgood HK.out
      · have HKV := Lib.hid hkd
        clear hkd
        go_enter Try.func8, Try.ntmps8
        go_wp2_with fail
        refine HSZ.out.mono ?_
        rintro e w' ⟨rfl, rfl⟩
        go_wp2_with fail
        refine (beyond_any w.heap.size 0 1 (asizeV l) HLE.out.1 HLE.out.2 _ (by simp)).mono ?_
        rintro e w' ⟨rfl, rfl⟩
        rw [HBY.out]
        go_wp2_with fail
        refine (HOR.out _ (HBE.out _)).mono ?_
        rintro e w1 ⟨hb1, ⟨-, rfl⟩ | ⟨hgood, -⟩⟩
        · have HB1 := Lib.hid ((HBE.out _).trans (hb1.mono (HBE.out _).size))
          clear hb1
          rw [HKV.out]
          go_wp2_with fail
          refine (lives29_any _).mono ?_
          rintro e w9 ⟨rfl, hb9⟩
          have HB9 : Hid (Below w.heap.size w w9) := Lib.hid (HB1.out.trans (hb9.mono HB1.out.size))
          clear hb9
          go_wp2_with fail
          go_ret
          exact ⟨rfl, HB9.out⟩
        · exact absurd hgood HK.out
end Go.Proofs.Ytjaegddnikkibaa
