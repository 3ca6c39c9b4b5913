/-
  SerialTells walked.
-/
import Derived.Test.YtjaegddnikkibaaGreatDoorTwinPlain
import Derived.Test.YtjaegddnikkibaaGreatDoorRfChk29
import Derived.Test.YtjaegddnikkibaaGreatDoorRfWordsPlain
import Derived.Test.YtjaegddnikkibaaGreatDoorSameCells
import Derived.Test.YtjaegddnikkibaaGreatDoorBkEmpty
import Derived.Test.YtjaegddnikkibaaGreatDoorSerLives
set_option linter.unusedVariables false
set_option linter.unusedSimpArgs false
namespace Go.Proofs.YtjaegddnikkibaaGreatDoor
open Go.RowKit Go.Sort Go.Maps

theorem ok_coreS {l l' : List Att} (h : l'.map core = l.map core) (hO : ∀ x ∈ l, x.Ok) : ∀ x ∈ l', x.Ok := fun x hx => by
  obtain ⟨k, hk, rfl⟩ := List.mem_iff_getElem.1 hx
  have hk2 : k < l.length := by rw [← core_len h]; exact hk
  have hc := core_get h hk hk2
  have ho := hO _ (List.getElem_mem hk2)
  generalize l'[k] = x at *
  generalize l[k] = y at *
  obtain ⟨a0, a1, a2, a3, a4, a5, a6, a7, a8, a9⟩ := x
  obtain ⟨b0, b1, b2, b3, b4, b5, b6, b7, b8, b9⟩ := y
  simp only [core, Att.mk.injEq] at hc
  obtain ⟨rfl, rfl, rfl, rfl, rfl, rfl, rfl, -, -, rfl⟩ := hc
  exact ⟨ho.th, ho.kd, ho.bg, ho.en, ho.ck, ho.pl, ho.len, ho.evs⟩
theorem ordU_same {l l' : List Att} (hm : l'.map core = l.map core) {w w' : World} {e : Ending} (h : OrdU l' w e w') : OrdU l w e w' := by
  unfold OrdU at *
  rw [ordL_same hm, checkedV_same hm] at h
  exact h
theorem wordsU_same {l l' : List Att} (hm : l'.map core = l.map core) {w w' : World} {e : Ending} (h : WordsU l' w e w') : WordsU l w e w' := by
  obtain ⟨h1, B, cap, cs, h2, h3, h4⟩ := h
  exact ⟨h1, B, cap, cs, by rw [h2, checkedV_same hm], celL_same hm h3, h4⟩
theorem ordL_len (l : List Att) : (ordL l).length ≤ l.length := by
  unfold ordL
  split
  · exact order_len l
  · exact Nat.zero_le _
def kc0 : Array Value := #[.int .i64 0, .slice none 0 0, .slice none 0 0, .slice none 0 0, .slice none 0 0, .slice none 0 0, .slice none 0 0, .slice none 0 0, .slice none 0 0, .slice none 0 0, .slice none 0 0, .slice none 0 0, .slice none 0 0, .slice none 0 0, .slice none 0 0, .slice none 0 0, .slice none 0 0, .slice none 0 0, .slice none 0 0, .slice none 0 0, .slice none 0 0, .slice none 0 0, .slice none 0 0, .slice none 0 0, .slice none 0 0, .slice none 0 0, .slice none 0 0, .slice none 0 0]
theorem kcS (kc : Array Value) (i : Nat) (v x : Value) (h : kc.size = 28) (hi : i < 28) (h0 : 0 ≠ i) :
    ((kc.setIfInBounds i v).setIfInBounds 0 x)[i]? = some v ∧ ((kc.setIfInBounds i v).setIfInBounds 0 x)[0]? = some x ∧ ((kc.setIfInBounds i v).setIfInBounds 0 x).size = 28 ∧ ∀ j, 0 ≠ j → i ≠ j → ((kc.setIfInBounds i v).setIfInBounds 0 x)[j]? = kc[j]? := by
  refine ⟨?_, ?_, by simp [h], fun j h1 h2 => ?_⟩
  · rw [Array.getElem?_setIfInBounds_ne h0, Array.getElem?_setIfInBounds_self_of_lt (by omega)]
  · rw [Array.getElem?_setIfInBounds_self_of_lt (by simp [h])]
  · rw [Array.getElem?_setIfInBounds_ne h1, Array.getElem?_setIfInBounds_ne h2]
theorem kc0_nil : ∀ i ∈ nilBk, kc0[i]? = some (.slice none 0 0) ∧ 0 ≠ i ∧ 2 ≠ i ∧ 5 ≠ i := by
  intro i hi
  simp only [nilBk, List.mem_cons, List.not_mem_nil, or_false] at hi
  rcases hi with rfl | rfl | rfl | rfl | rfl | rfl | rfl | rfl | rfl | rfl | rfl | rfl | rfl | rfl | rfl | rfl | rfl | rfl | rfl | rfl | rfl | rfl | rfl | rfl | rfl <;> exact ⟨rfl, by decide, by decide, by decide⟩
theorem row_new {w w2 : World} {B e k n m c d : Nat} {A1 A2 : Option Addr} {xs ys : List Value} (h1 : w.ownsRow B e k (.slice A1 n c) n xs) (hw : w.heap.size ≤ w2.heap.size) (hB : w2.heap.size < B + 0 ∨ True) {W : World} {B2 : Nat} (h2 : W.ownsRow B2 e k (.slice A2 m d) m ys) (hB2 : w.heap.size < B2) (num : Int) :
    ∀ (i : Nat) (a : HRow), ([⟨.slice A1 n c, n, xs, num⟩] : List HRow)[i]? = some a → ∀ g, a.v.ownBlock = some g → (Value.slice A2 m d).ownBlock ≠ some g := fun i a ha g hg e => by
  match i, ha with
  | 0, ha =>
    injection ha with ha
    subst ha
    have := (h1.lt g hg).2
    have := (h2.lt g e).1
    omega
  | i + 1, ha => simp at ha

set_option maxHeartbeats 8000000 in
set_option maxRecDepth 100000 in
theorem serialTells_walk (hs : SortsCells) (A : Option Addr) (c : Nat) (l : List Att) (w : World) (hl : l.length ≤ 35184372088832) (hO : ∀ x ∈ l, x.Ok) (ha : AttsAt w w.heap.size A l) :
    Calls Tryz.prog 3 #[.slice A l.length c] w fun e w' => e = .returned (.bool true) ∧ Below w.heap.size w w' := by
  have HSZ := Lib.hid (asize_any A c _ l hl (fun x hx => (hO x hx).len) w ha)
  have HLE := Lib.hid (asizeV_le l)
  by_cases hby : 262144 < asizeV l
  · have HBY : Hid (decide (262144 < asizeV l) = true) := Lib.hid (by simpa using hby)
    have HBE := Lib.hid (fun o => (Below.refl w.heap.size w).alloc (Nat.le_refl _) o)
    clear ha hO hby
    go_enter Tryz.func3, Tryz.ntmps3
    go_wp2_with fail
    refine HSZ.out.mono ?_
    rintro e w' ⟨rfl, rfl⟩
    go_wp2_with fail
    refine (beyond_any w.heap.size 0 1 (asizeV l) HLE.out.1 HLE.out.2 _ (by simp)).mono ?_
    rintro e w' ⟨rfl, rfl⟩
    rw [HBY.out]
    go_wp2_with fail
    go_ret
    exact ⟨rfl, HBE.out _⟩
  · have HBY : Hid (decide (262144 < asizeV l) = false) := Lib.hid (by simpa using hby)
    have hts : totalSize l ≤ 262144 := by
      have := mt (asizeV_total l).2 hby
      omega
    have hln := Nat.le_trans (length_le_total l) hts
    have hel : ∀ x ∈ l, x.evs.length ≤ 1000000 := fun x hx => Nat.le_trans (evs_le_total l x hx) (by omega)
    have HTW := Lib.hid (fun W (h : Below w.heap.size w W) => twinAtts_any A c l w.heap.size W (ha.keep h (Nat.le_refl _)) h.size (by omega) hel)
    have HOQ : Hid (∀ (l' : List Att) (g : Nat) W, l'.map core = l.map core → Twins W g l' → Calls Tryz.prog 7 #[.slice (some ⟨g, 0, none⟩) l.length (l.length + 2)] W (OrdU l W)) := Lib.hid (fun l' g W hm ht => by
      have hh := (order_own (some ⟨g, 0, none⟩) (l.length + 2) l' (by have := core_len hm; omega) (ok_coreS hm hO) W ht.atts).mono fun e w' h => ordU_same hm h.all
      rwa [core_len hm] at hh)
    have HCQ : Hid (∀ (l' : List Att) (g : Nat) W, l'.map core = l.map core → Twins W g l' → Calls Tryz.prog 8 #[.slice (some ⟨g, 0, none⟩) l.length (l.length + 2)] W fun e w' => e = .returned (.tuple #[.int .i64 (scheckV l).1, .int .i64 (scheckV l).2]) ∧ Below W.heap.size W w') := Lib.hid (fun l' g W hm ht => by
      have hh := scheck_any (some ⟨g, 0, none⟩) (l.length + 2) l' (by have := core_len hm; omega) (ok_coreS hm hO) W ht.atts
      rwa [core_len hm, scheckV_same hm] at hh)
    have HWQ : Hid (∀ (l' : List Att) (g : Nat) W, l'.map core = l.map core → Twins W g l' → Calls Tryz.prog 9 #[.slice (some ⟨g, 0, none⟩) l.length (l.length + 2)] W (WordsU l W)) := Lib.hid (fun l' g W hm ht => by
      have hh := (words_own hs (some ⟨g, 0, none⟩) (l.length + 2) l' (by have := core_len hm; omega) (ok_coreS hm hO) W ht.atts).mono fun e w' h => wordsU_same hm h.all
      rwa [core_len hm] at hh)
    have HRO := Lib.hid (fun W (h : Below w.heap.size w W) => rfOrder_any A c l (by omega) hO W (ha.keep h h.size))
    have HRC := Lib.hid (fun W (h : Below w.heap.size w W) => rfCheck29_any A c l (by omega) hts hO W (ha.keep h h.size))
    have HRW := Lib.hid (fun W (h : Below w.heap.size w W) => (rfWords_any A c l (by omega) hts hO W (ha.keep h h.size)).mono fun e w' h => h.all)
    have HLF := Lib.hid (fun (l' : List Att) (g : Nat) W (hm : l'.map core = l.map core) (ht : Twins W g l') (h : Below w.heap.size w W) => leftAtts_any l l' g A c w.heap.size W ht hm (ha.keep h (Nat.le_refl _)) h.size (by omega) hel)
    have HOL := Lib.hid (ordL_len l)
    clear ha hO hby hts hl hel hs
    go_enter Tryz.func3, Tryz.ntmps3
    go_wp2_with fail
    refine HSZ.out.mono ?_
    rintro e w' ⟨rfl, rfl⟩
    go_wp2_with fail
    refine (beyond_any w.heap.size 0 1 (asizeV l) HLE.out.1 HLE.out.2 _ (by simp)).mono ?_
    rintro e w' ⟨rfl, rfl⟩
    rw [HBY.out]
    go_wp2_with fail
    have hb0 := (Below.refl w.heap.size w).alloc (Nat.le_refl _) (.cells #[.int .i64 (asizeV l)] 3 (0, 0))
    refine (HTW.out _ hb0).mono ?_
    rintro e w1 ⟨rfl, ⟨l', hm, ht⟩, hb1⟩
    have HB1 := Lib.hid (hb0.trans (hb1.mono hb0.size))
    have HW1 := Lib.hid (fun W (h : Below w1.heap.size w1 W) => HB1.out.trans (h.mono HB1.out.size))
    have HT := Lib.hid (fun W (h : Below w1.heap.size w1 W) => ht.below h)
    have HOQ2 := Lib.hid (fun W (h : Below w1.heap.size w1 W) => HOQ.out l' _ W hm (HT.out W h))
    have HCQ2 := Lib.hid (fun W (h : Below w1.heap.size w1 W) => HCQ.out l' _ W hm (HT.out W h))
    have HWQ2 := Lib.hid (fun W (h : Below w1.heap.size w1 W) => HWQ.out l' _ W hm (HT.out W h))
    have HLF2 := Lib.hid (fun W (h : Below w1.heap.size w1 W) => HLF.out l' _ W hm (HT.out W h) (HW1.out W h))
    clear hm ht hb1 hb0 HT HOQ HCQ HWQ HLF HTW HSZ HB1
    generalize (w.alloc (.cells #[.int .i64 (asizeV l)] 3 (0, 0))).heap.size = g at *
    generalize scheckV l = E1 at *
    obtain ⟨p1, p2⟩ := E1
    dsimp only at *
    go_wp2_with fail
    refine (HOQ2.out _ (Below.refl _ _)).mono ?_
    rintro e w2 ⟨hb, A1, c1, rfl, hi1, ho1⟩
    have HB2 := Lib.hid hb
    have HI1 := Lib.hid hi1
    have HO1 := Lib.hid ho1
    clear hb hi1 ho1
    go_wp2_with fail
    refine (HOQ2.out _ HB2.out).mono ?_
    rintro e w3 ⟨hb, A2, c2, rfl, hi2, ho2⟩
    have HB23 := Lib.hid hb
    have HB3 := Lib.hid (HB2.out.trans (hb.mono HB2.out.size))
    have HI2 := Lib.hid hi2
    have HO2 := Lib.hid ho2
    clear hb hi2 ho2 HOQ2
    go_wp2_with fail
    refine (HCQ2.out _ HB3.out).mono ?_
    rintro e w4 ⟨rfl, hb⟩
    have HB34 := Lib.hid hb
    have HB4 := Lib.hid (HB3.out.trans (hb.mono HB3.out.size))
    clear hb HCQ2
    go_wp2_with fail
    refine (HWQ2.out _ HB4.out).mono ?_
    rintro e w5 ⟨hb, B1, k1, cs, rfl, hc1, ha1, hn1, ho3⟩
    have HB45 := Lib.hid hb
    have HB5 := Lib.hid (HB4.out.trans (hb.mono HB4.out.size))
    have HC1 := Lib.hid hc1
    have HA1 := Lib.hid ha1
    have HO3 := Lib.hid ho3
    clear hb hc1 ha1 ho3
    go_wp2_with fail
    refine (HWQ2.out _ HB5.out).mono ?_
    rintro e w6 ⟨hb, B2, k2, ds, rfl, hc2, ha2, -, ho4⟩
    obtain rfl := celL_unique hc2 HC1.out
    have HB56 := Lib.hid hb
    have HB6 := Lib.hid (HB5.out.trans (hb.mono HB5.out.size))
    have HA2 := Lib.hid ha2
    have HO4 := Lib.hid ho4
    clear hb hc2 ha2 ho4 HWQ2
    go_wp2_with fail
    refine (HRO.out _ (HW1.out _ HB6.out)).mono ?_
    rintro e w7 ⟨hb, A3, c3, rfl, hi3⟩
    have HB67 := Lib.hid hb
    have HB7 := Lib.hid (HB6.out.trans (hb.mono HB6.out.size))
    have HI3 := Lib.hid hi3
    clear hb hi3 HRO
    go_wp2_with fail
    refine (HRC.out _ (HW1.out _ HB7.out)).mono ?_
    rintro e w8 ⟨rfl, hb⟩
    have HB78 := Lib.hid hb
    have HB8 := Lib.hid (HB7.out.trans (hb.mono HB7.out.size))
    clear hb HRC
    go_wp2_with fail
    refine (HRW.out _ (HW1.out _ HB8.out)).mono ?_
    rintro e w9 ⟨hb, B3, k3, es, rfl, hc3, ha3, -⟩
    obtain rfl := celL_unique hc3 HC1.out
    have HB89 := Lib.hid hb
    have HB9 := Lib.hid (HB8.out.trans (hb.mono HB8.out.size))
    have HA3 := Lib.hid ha3
    clear hb hc3 ha3 HRW HC1
    have H79 := Lib.hid (HB78.out.trans (HB89.out.mono HB78.out.size))
    have H69 := Lib.hid (HB67.out.trans (H79.out.mono HB67.out.size))
    have H59 := Lib.hid (HB56.out.trans (H69.out.mono HB56.out.size))
    have H49 := Lib.hid (HB45.out.trans (H59.out.mono HB45.out.size))
    have H39 := Lib.hid (HB34.out.trans (H49.out.mono HB34.out.size))
    have H29 := Lib.hid (HB23.out.trans (H39.out.mono HB23.out.size))
    have hb23 := HB23.out.size
    have hb56 := HB56.out.size
    have hb35 : w3.heap.size ≤ w5.heap.size := Nat.le_trans HB34.out.size HB45.out.size
    have hb12 := HB2.out.size
    have hb14 := HB4.out.size
    have hb15 := HB5.out.size
    have HNR1 := Lib.hid (fun num => row_new (w2 := w2) HO1.out (Nat.le_refl _) (Or.inr trivial) HO2.out (Nat.lt_succ_self _) num)
    have HNR2 := Lib.hid (fun num => row_new (w2 := w5) HO3.out (Nat.le_refl _) (Or.inr trivial) HO4.out (Nat.lt_succ_self _) num)
    have HI1 := Lib.hid (HI1.out.keep H29.out)
    have HI2 := Lib.hid (HI2.out.keep H39.out)
    have HA1 := Lib.hid (HA1.out.keep H59.out)
    have HA2 := Lib.hid (HA2.out.keep H69.out)
    have HI3 := Lib.hid (HI3.out.keep H79.out)
    have HO1 := Lib.hid (own_belowI (own_baseI HO1.out (B' := w1.heap.size) (by omega)) H29.out)
    have HO2 := Lib.hid (own_belowI (own_baseI HO2.out (B' := w1.heap.size) (by omega)) H39.out)
    have HO3 := Lib.hid (own_belowI (own_baseI HO3.out (B' := w1.heap.size) (by omega)) H59.out)
    have HO4 := Lib.hid (own_belowI (own_baseI HO4.out (B' := w1.heap.size) (by omega)) H69.out)
    have hol : (ordL l).length ≤ 262144 := Nat.le_trans HOL.out hln
    clear H79 H69 H59 H49 H39 H29 HB23 HB34 HB45 HB56 HB67 HB78 HB89 HB2 HB3 HB4 HB5 HB6 HB7 HB8 hb23 hb56 hb35 hb12 hb14 hb15
    go_wp2_with fail
    refine (sameNums_any A1 A3 c1 c3 (ordL l) w9 (by omega) HI1.out HI3.out).mono ?_
    rintro e w10 ⟨rfl, hb⟩
    have HI2b := Lib.hid (HI2.out.keep hb)
    have HI3b := Lib.hid (HI3.out.keep hb)
    have HA1b := Lib.hid (HA1.out.keep hb)
    have HA2b := Lib.hid (HA2.out.keep hb)
    have HA3b := Lib.hid (HA3.out.keep hb)
    have H10 := Lib.hid hb
    clear hb HI1 HI2 HI3 HA1 HA2 HA3
    go_wp2_with fail
    refine (sameNums_any A2 A3 c2 c3 (ordL l) w10 (by omega) HI2b.out HI3b.out).mono ?_
    rintro e w11 ⟨rfl, hb⟩
    have HA1c := Lib.hid (HA1b.out.keep hb)
    have HA2c := Lib.hid (HA2b.out.keep hb)
    have HA3c := Lib.hid (HA3b.out.keep hb)
    have H11 := Lib.hid (H10.out.trans (hb.mono H10.out.size))
    clear hb HI2b HI3b HA1b HA2b HA3b H10
    go_wp2_with fail
    refine (sameCells_any B1 B3 k1 k3 _ w11 hn1 HA1c.out HA3c.out).mono ?_
    rintro e w12 ⟨rfl, hb⟩
    have HA2d := Lib.hid (HA2c.out.keep hb)
    have HA3d := Lib.hid (HA3c.out.keep hb)
    have H12 := Lib.hid (H11.out.trans (hb.mono H11.out.size))
    clear hb HA1c HA2c HA3c H11
    go_wp2_with fail
    refine (sameCells_any B2 B3 k2 k3 _ w12 hn1 HA2d.out HA3d.out).mono ?_
    rintro e w13 ⟨rfl, hb⟩
    have H13 := Lib.hid (H12.out.trans (hb.mono H12.out.size))
    clear hb HA2d HA3d H12
    obtain ⟨K, hK⟩ : ∃ K, w13.heap.size = K := ⟨_, rfl⟩
    obtain ⟨w14, hw14⟩ : ∃ w14, w13.alloc (.cells #[.int .i64 0, .slice none 0 0, .slice none 0 0, .slice none 0 0, .slice none 0 0, .slice none 0 0, .slice none 0 0, .slice none 0 0, .slice none 0 0, .slice none 0 0, .slice none 0 0, .slice none 0 0, .slice none 0 0, .slice none 0 0, .slice none 0 0, .slice none 0 0, .slice none 0 0, .slice none 0 0, .slice none 0 0, .slice none 0 0, .slice none 0 0, .slice none 0 0, .slice none 0 0, .slice none 0 0, .slice none 0 0, .slice none 0 0, .slice none 0 0, .slice none 0 0] 65 (0, 0)) = w14 := ⟨_, rfl⟩
    have hK0 : w14.heap[K]? = some (.cells kc0 65 (0, 0)) := by rw [← hw14, ← hK]; exact heap_alloc_new w13 _
    have hb14 : Below w13.heap.size w13 w14 := by rw [← hw14]; exact (Below.refl _ _).alloc (Nat.le_refl _) _
    have H14 := Lib.hid (H13.out.trans (hb14.mono H13.out.size))
    have HF14 := Lib.hid (HB9.out.trans (H14.out.mono HB9.out.size))
    have HBK : w1.heap.size ≤ K := by have := HB9.out.size; have := H13.out.size; omega
    have HO1 := Lib.hid (own_belowI HO1.out H14.out)
    have HO2 := Lib.hid (own_belowI HO2.out H14.out)
    have HO3 := Lib.hid (own_belowI HO3.out H14.out)
    have HO4 := Lib.hid (own_belowI HO4.out H14.out)
    have HN0 : Held 3 119 1 w1.heap.size w14 (.slice none 0 0) [] := ⟨World.ownsRow_nil _ _ _ _, fun i r h => by simp at h, fun i j a b h => by simp at h⟩
    have HC0 : Held 91 121 2 w1.heap.size w14 (.slice none 0 0) [] := ⟨World.ownsRow_nil _ _ _ _, fun i r h => by simp at h, fun i j a b h => by simp at h⟩
    have HK1 := Lib.hid (bookNumbers_any K w1.heap.size kc0 (.slice none 0 0) 0 [] A1 (ordL l).length c1 _ w14 HBK hK0 rfl rfl (by omega) (by omega) HN0 (by simp) HO1.out (fun i a h => by simp at h))
    have HC0 := Lib.hid HC0
    clear hK0 hb14 HN0 H13 H14
    go_wp2_with fail
    clear hw14 hK
    refine HK1.out.mono ?_
    rintro e w15 ⟨rfl, ⟨v1, hK1, hN1⟩, hf⟩
    obtain ⟨a1, a2, a3, a4⟩ := kcS kc0 2 v1 (.int .i64 (0 + 1)) rfl (by decide) (by decide)
    generalize (kc0.setIfInBounds 2 v1).setIfInBounds 0 (.int .i64 (0 + 1)) = kc1 at hK1 a1 a2 a3 a4
    have KA := Lib.hid a4
    have KA1 := Lib.hid a1
    have KA2 : Hid (kc1[0]? = some (.int .i64 1)) := Lib.hid a2
    clear a1 a2 a4
    have HK1 := Lib.hid hK1
    have HN1 := Lib.hid hN1
    have HC1 := Lib.hid (hf.held HC0.out (by decide) (by decide))
    have HO2 := Lib.hid (hf.own HO2.out (by decide))
    have HO3 := Lib.hid (hf.own HO3.out (by decide))
    have HO4 := Lib.hid (hf.own HO4.out (by decide))
    have HF15 := Lib.hid (HF14.out.trans ((hf.below HF14.out.size)))
    clear hf hK1 hN1 HC0 HF14
    go_wp2_with fail
    refine (bookNumbers_any K w1.heap.size kc1 v1 1 _ A2 (ordL l).length c2 _ w15 HBK HK1.out KA1.out KA2.out (by omega) (by omega) HN1.out (by simp) HO2.out (HNR1.out 0)).mono ?_
    rintro e w16 ⟨rfl, ⟨v2, hK2, hN2⟩, hf⟩
    obtain ⟨a1, a2, b3, a4⟩ := kcS kc1 2 v2 (.int .i64 (1 + 1)) a3 (by decide) (by decide)
    generalize (kc1.setIfInBounds 2 v2).setIfInBounds 0 (.int .i64 (1 + 1)) = kc2 at hK2 a1 a2 b3 a4
    have KB := Lib.hid a4
    have KB1 := Lib.hid a1
    have KB2 : Hid (kc2[0]? = some (.int .i64 2)) := Lib.hid a2
    have KB5 : Hid (kc2[5]? = some (.slice none 0 0)) := Lib.hid (by rw [KB.out 5 (by decide) (by decide), KA.out 5 (by decide) (by decide)]; rfl)
    clear a1 a2 a4 a3
    have HK2 := Lib.hid hK2
    have HN2 := Lib.hid hN2
    have HC2 := Lib.hid (hf.held HC1.out (by decide) (by decide))
    have HO3 := Lib.hid (hf.own HO3.out (by decide))
    have HO4 := Lib.hid (hf.own HO4.out (by decide))
    have HF16 := Lib.hid (HF15.out.trans ((hf.below HF15.out.size)))
    clear hf hK2 hN2 HC1 HF15 HK1 HN1
    go_wp2_with fail
    refine (bookCells_any K w1.heap.size kc2 (.slice none 0 0) 2 [] B1 _ k1 _ w16 HBK HK2.out KB5.out KB2.out (by omega) (by omega) HC2.out (by simp) HO3.out (fun i a h => by simp at h)).mono ?_
    rintro e w17 ⟨rfl, ⟨v3, hK3, hC3⟩, hf⟩
    obtain ⟨a1, a2, a3, a4⟩ := kcS kc2 5 v3 (.int .i64 (2 + 1)) b3 (by decide) (by decide)
    generalize (kc2.setIfInBounds 5 v3).setIfInBounds 0 (.int .i64 (2 + 1)) = kc3 at hK3 a1 a2 a3 a4
    have KC := Lib.hid a4
    have KC1 := Lib.hid a1
    have KC2 : Hid (kc3[0]? = some (.int .i64 3)) := Lib.hid a2
    clear a1 a2 a4 b3
    have HK3 := Lib.hid hK3
    have HC3 := Lib.hid hC3
    have HN3 := Lib.hid (hf.held HN2.out (by decide) (by decide))
    have HO4 := Lib.hid (hf.own HO4.out (by decide))
    have HF17 := Lib.hid (HF16.out.trans ((hf.below HF16.out.size)))
    clear hf hK3 hC3 HC2 HF16 HK2 HN2
    go_wp2_with fail
    refine (bookCells_any K w1.heap.size kc3 v3 3 _ B2 _ k2 _ w17 HBK HK3.out KC1.out KC2.out (by omega) (by omega) HC3.out (by simp) HO4.out (HNR2.out 2)).mono ?_
    rintro e w18 ⟨rfl, ⟨v4, hK4, hC4⟩, hf⟩
    obtain ⟨a1, a2, b3, a4⟩ := kcS kc3 5 v4 (.int .i64 (3 + 1)) a3 (by decide) (by decide)
    generalize (kc3.setIfInBounds 5 v4).setIfInBounds 0 (.int .i64 (3 + 1)) = kc4 at hK4 a1 a2 b3 a4
    have HK4 := Lib.hid hK4
    have KD5 := Lib.hid a1
    have KD2 : Hid (kc4[2]? = some v2) := Lib.hid (by rw [a4 2 (by decide) (by decide), KC.out 2 (by decide) (by decide)]; exact KB1.out)
    have KDN : Hid (∀ i ∈ nilBk, kc4[i]? = some (.slice none 0 0)) := Lib.hid (fun i hi => by
      obtain ⟨h1, h2, h3, h4⟩ := kc0_nil i hi
      rw [a4 i h2 h4, KC.out i h2 h4, KB.out i h2 h3, KA.out i h2 h3]; exact h1)
    clear a1 a2 a4 a3 b3
    have HC4 := Lib.hid hC4
    have HN4 := Lib.hid (hf.held HN3.out (by decide) (by decide))
    have HF18 := Lib.hid (HF17.out.trans ((hf.below HF17.out.size)))
    clear hf hK4 hC4 HC3 HF17 HK3 HN3
    go_wp2_with fail
    refine (apart_any K w1.heap.size kc4 v2 _ v4 _ w18 HF18.out.size HK4.out KDN.out KD2.out HN4.out (by simp) (by intro r hr; simp at hr; rcases hr with rfl | rfl <;> (dsimp only; omega)) KD5.out HC4.out (by simp) (by intro r hr; simp at hr; rcases hr with rfl | rfl <;> (dsimp only; omega))).mono ?_
    rintro e w19 ⟨rfl, hf⟩
    have HF19 := Lib.hid (HF18.out.trans ((hf.below HF18.out.size)))
    clear hf HC4 HN4 HK4 HF18
    go_wp2_with fail
    refine (HLF2.out _ HF19.out).mono ?_
    rintro e w20 ⟨rfl, hb⟩
    have HF20 := Lib.hid (HF19.out.trans (hb.mono HF19.out.size))
    clear hb HLF2 HF19
    go_wp2_with fail
    refine (lives29_any _).mono ?_
    rintro e w21 ⟨rfl, hb⟩
    have HF21 := Lib.hid (HW1.out _ (HF20.out.trans (hb.mono HF20.out.size)))
    clear hb
    go_wp2_with fail
    go_ret
    exact ⟨rfl, HF21.out⟩
end Go.Proofs.YtjaegddnikkibaaGreatDoor
