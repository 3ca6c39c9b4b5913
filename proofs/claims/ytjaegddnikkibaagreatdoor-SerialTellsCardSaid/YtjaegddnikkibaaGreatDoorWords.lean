/-
  serial.Words walked (slices.SortFunc's part of it as a premise: it is paid in another text).
-/
import Derived.Test.YtjaegddnikkibaaGreatDoorWordsPlain
import Derived.WalkSmall
import Derived.WideMake
import Derived.Test.YtjaegddnikkibaaGreatDoorChkPlain
import Derived.Test.YtjaegddnikkibaaGreatDoorOrder
import Derived.Maps.RangeWalk
import Derived.Deep.AppendLies
set_option linter.unusedVariables false
set_option linter.unusedSimpArgs false
namespace Go.Proofs.YtjaegddnikkibaaGreatDoor
open Go.RowKit Go.Sort Go.Maps

theorem law64 : Keyed Tryz.prog 2 := int_keyed (q := .i64) (by kernel_rfl)
/-- what serial.Words asks of slices.SortFunc -/
def SortsCells : Prop :=
  (∀ (w : World), Calls Tryz.prog 32 #[.slice none 0 0, .func (.func 33) #[] #[]] w fun e w' => e = .returned (.tuple #[]) ∧ Below w.heap.size w w') ∧
  ∀ (base g cap : Nat) (cs : List (Int × Int)) (w : World), w.ownsRow base 91 2 (.slice (some ⟨g, 0, none⟩) cs.length cap) cs.length (cs.flatMap cellC) → (cs.map (·.1)).Nodup → cs.length < 100000000000 →
    Calls Tryz.prog 32 #[.slice (some ⟨g, 0, none⟩) cs.length cap, .func (.func 33) #[] #[]] w fun e w' =>
      e = .returned (.tuple #[]) ∧ ∃ cs', cs'.length = cs.length ∧ (∀ p, p ∈ cs' ↔ p ∈ cs) ∧ cs'.Pairwise (fun p q => p.1 < q.1) ∧ CellsAt w' (some ⟨g, 0, none⟩) cs' ∧ MapF g w w' ∧ w'.ownsRow base 91 2 (.slice (some ⟨g, 0, none⟩) cs.length cap) cs.length (cs'.flatMap cellC)
/-- what serial.Words hands back -/
def WordsOut (l : List Att) (w : World) (e : Ending) (w' : World) : Prop :=
  Below w.heap.size w w' ∧ ((checkedV l ≠ 0 ∧ e = .returned (.tuple #[.slice none 0 0, .int .i64 (checkedV l)])) ∨
    (checkedV l = 0 ∧ ∃ B cap cs, e = .returned (.tuple #[.slice B cs.length cap, .int .i64 0]) ∧ WordsIs cs (allK l (orderV l)) ∧ CellsAt w' B cs ∧ cs.length ≤ 68157440))
/-- the same, and that the row is new -/
def WordsOwn (l : List Att) (w : World) (e : Ending) (w' : World) : Prop :=
  Below w.heap.size w w' ∧ ((checkedV l ≠ 0 ∧ e = .returned (.tuple #[.slice none 0 0, .int .i64 (checkedV l)])) ∨
    (checkedV l = 0 ∧ ∃ B cap cs, e = .returned (.tuple #[.slice B cs.length cap, .int .i64 0]) ∧ WordsIs cs (allK l (orderV l)) ∧ CellsAt w' B cs ∧ cs.length ≤ 68157440 ∧ w'.ownsRow (w.heap.size + 1) 91 2 (.slice B cs.length cap) cs.length (cs.flatMap cellC)))
theorem WordsOwn.out {l : List Att} {w w' : World} {e : Ending} (h : WordsOwn l w e w') : WordsOut l w e w' :=
  ⟨h.1, h.2.imp id (fun ⟨h1, B, cap, cs, h2, h3, h4, h5, _⟩ => ⟨h1, B, cap, cs, h2, h3, h4, h5⟩)⟩

theorem cnt_le {H : Type} {P : Program} {k : TypeId} {R : Value → Option (DataW H × List MemPlace)} {w : World} {b r n : Nat} {D : DataW H} {left : Lit → Bool} {cnt : Nat} (h : w.ranges P k R b r n D left cnt) : cnt ≤ n := by
  obtain ⟨es, clock, since, seen, c0, h1, h2, h3, h4, h5, h6, h7, h8⟩ := h
  rw [← h7]
  refine Nat.le_trans ?_ h3
  unfold leftOf
  exact Array.size_filter_le
theorem evs_keepW {w1 w' : World} {B : Nat} {A : Option Addr} {es : List Ev} (h : EvsAt w1 B A es) (hb : Below w1.heap.size w1 w') (hB : B ≤ w1.heap.size) : EvsAt w' B A es := h.keep (hb.mono hB) (Nat.le_refl _)

theorem own_baseI {w : World} {B B' e size n : Nat} {v : Value} {xs : List Value} (h : w.ownsRow B e size v n xs) (hB : B' ≤ B) : w.ownsRow B' e size v n xs :=
  ⟨h.1, h.2.imp id (fun ⟨g, cap, cur, h1, h2, h3⟩ => ⟨g, cap, cur, h1, Nat.le_trans hB h2, h3⟩)⟩
set_option maxHeartbeats 4000000 in
set_option maxRecDepth 100000 in
theorem words_own (hs : SortsCells) (A : Option Addr) (c : Nat) (l : List Att) (hn : l.length ≤ 1048576) (hO : ∀ x ∈ l, x.Ok) (w : World) (ha : AttsAt w w.heap.size A l) :
    Calls Tryz.prog 9 #[.slice A l.length c] w (WordsOwn l w) := by
  have HC := Lib.hid (fun w1 (h : Below w.heap.size w w1) => order_any A c l hn hO w1 (ha.keep h h.size))
  have HA := Lib.hid (fun w1 (h : Below w.heap.size w w1) => ha.keep h (Nat.le_refl _))
  have HOK := Lib.hid hO
  have HS := Lib.hid hs
  obtain ⟨i0, hi0, hz0, hz1, hz2⟩ := info_parts cellInfo
  clear ha hO hs
  by_cases hck : checkedV l = 0
  · obtain ⟨hts, hatt⟩ := checked_ok hck
    have HATT := Lib.hid (fun x (hx : x ∈ l) => attB_evs (hatt x hx))
    have HOO : Hid (∀ x ∈ l, x.Ok ∧ ∀ e ∈ x.evs, evB x.th e = true) := Lib.hid (fun x hx => ⟨HOK.out x hx, HATT.out x hx⟩)
    have HK := Lib.hid hck
    have hsum := Lib.hid (Nat.le_trans (evSum_order (l := l)) hts)
    have hol := Nat.le_trans (order_len l) hn
    have HR : Hid (∀ i ∈ orderV l, ∃ j : Nat, i = j ∧ j < l.length) := Lib.hid (fun i hi => by
      obtain ⟨j, hj, x, hx, -⟩ := orderV_mem hi
      exact ⟨j, hj, (List.getElem?_eq_some_iff.1 hx).1⟩)
    have HIN : Hid (InMem (allK l (orderV l))) := Lib.hid (inMem_all _ _ (fun x v h => by cases h) (fun i hi e he => by
      obtain ⟨j, hj, hjl⟩ := HR.out i hi
      subst hj
      rw [attN_get hjl] at he ⊢
      exact HATT.out _ (List.getElem_mem hjl) e he))
    have HOUT : Hid (∀ e w', WordsOwn l w e w' ↔ (Below w.heap.size w w' ∧ ∃ B cap cs, e = .returned (.tuple #[.slice B cs.length cap, .int .i64 0]) ∧ WordsIs cs (allK l (orderV l)) ∧ CellsAt w' B cs ∧ cs.length ≤ 68157440 ∧ w'.ownsRow (w.heap.size + 1) 91 2 (.slice B cs.length cap) cs.length (cs.flatMap cellC))) := Lib.hid (fun e w' => by
      unfold WordsOwn
      constructor
      · rintro ⟨h1, h2 | h2⟩
        · exact absurd HK.out h2.1
        · exact ⟨h1, h2.2⟩
      · rintro ⟨h1, h2⟩
        exact ⟨h1, .inr ⟨HK.out, h2⟩⟩)
    obtain ⟨f0, hf0⟩ : ∃ f0, allK l (orderV l) = f0 := ⟨_, rfl⟩
    have HEQ := Lib.hid hf0
    rw [hf0] at HOUT HIN
    clear hatt hts hck hf0
    refine Calls.mono ?_ (fun e w' h => (HOUT.out e w').2 h)
    clear HOUT
    go_enter Tryz.func9, Tryz.ntmps9
    go_wp2_with fail
    refine (HC.out _ (Below.refl _ _)).mono ?_
    rintro e w1 ⟨hb1, ⟨hbad, -⟩ | ⟨-, OA, oc, rfl, hI⟩⟩
    · exact absurd HK.out hbad
    have HI := Lib.hid (fun W (h : Below w1.heap.size w1 W) => hI.keep h)
    have HB1 := Lib.hid hb1
    clear hI hb1
    generalize orderV l = o at *
    have hmk := run_makeMap_plain (P := Tryz.prog) w1 88
    go_wp2_with fail
    clear hmk
    go_loopw [23] (fun i wr => ∃ k : Nat, i = .int .i64 k ∧ k ≤ o.length ∧ Hid (HeapK Tryz.prog 2 wr w1.heap.size (65 * evSum l (o.take k)) (allK l (o.take k))) ∧ Hid (Below w1.heap.size w1 wr)) (fun i _ => o.length - (intOf i).toNat)
    case atStart => exact ⟨0, rfl, Nat.zero_le _, Lib.hid (HeapK.made _ _ w1), Lib.hid ((Below.refl _ _).alloc (Nat.le_refl _) _)⟩
    case round =>
      obtain ⟨k, rfl, hk, hH, hW⟩ := hrel
      have HW := Lib.hid (HB1.out.trans (hW.out.mono HB1.out.size))
      by_cases hlt : k < o.length
      · obtain ⟨g, goff, rfl, hgl, hgc⟩ := HI.out _ hW.out (by rintro rfl; simp at hlt)
        obtain ⟨i, hi, hil⟩ := HR.out _ (List.getElem_mem hlt)
        have e1 := hgc k _ (List.getElem?_eq_getElem hlt)
        obtain ⟨b, off, rfl, hbl, hc⟩ := (HA.out _ HW.out).row (by rintro rfl; simp at hil)
        have c7 := (hc i _ (List.getElem?_eq_getElem hil)).c7
        have hev := Lib.hid (evs_keepW ((HA.out _ HB1.out).evs _ (List.getElem_mem hil)) hW.out HB1.out.size)
        obtain ⟨hok1, hok2⟩ := HOO.out _ (List.getElem_mem hil)
        have hst : Hid (allK l (o.take (k + 1)) = doVK (allK l (o.take k)) l[i].evs) := Lib.hid (by rw [allK_snoc l hlt, hi, attN_get hil])
        have hsu : Hid (evSum l (o.take (k + 1)) = evSum l (o.take k) + l[i].evs.length) := Lib.hid (by
          rw [List.take_succ_eq_append_getElem hlt, evSum_append, hi]
          simp only [evSum, attN_get hil]; omega)
        have hsl := Lib.hid (evSum_take l o (k + 1))
        have hel := Lib.hid hok1.evs
        have hel2 := Lib.hid hok2
        rw [hi] at e1
        clear hgc hc hi hok1 hok2
        generalize hF0 : allK l (o.take k) = F at *
        generalize l[i] = x at *
        have p1 : (i : Int) < (l.length : Int) := by omega
        have p3 : (0 : Int) ≤ (i : Int) := Int.natCast_nonneg _
        have hxl : x.evs.length ≤ 1048576 := by have := hsu.out; have := hsl.out; have := hsum.out; omega
        have hDO := Lib.hid (fun (W : World) (h1 : HeapK Tryz.prog 2 W w1.heap.size (65 * evSum l (o.take k)) F) (h2 : EvsAt W w.heap.size x.dA x.evs) => doK_any w1.heap.size (65 * evSum l (o.take k)) w.heap.size x.dc F x.dA x.evs x.th hxl (by have := hsu.out; have := hsl.out; have := hsum.out; omega) (fun e he => ⟨hel.out e he, hel2.out e he⟩) W h1 h2 HB1.out.size)
        have HF3 : Hid (∀ W, HeapK Tryz.prog 2 W w1.heap.size (65 * evSum l (o.take k) + x.evs.length * 65) (doVK F x.evs) → HeapK Tryz.prog 2 W w1.heap.size (65 * evSum l (o.take (k + 1))) (allK l (o.take (k + 1)))) := Lib.hid (fun W h => by rw [hst.out]; exact h.mono (by rw [hsu.out]; omega))
        clear hst hsu hsl hel hel2 HW
        go_wp2_with fail
        refine (hDO.out _ hH.out hev.out).mono ?_
        rintro e w2 ⟨⟨bb, rfl⟩, hH2, hM2⟩
        have hH3 := Lib.hid (HF3.out _ hH2)
        have hW3 := Lib.hid (hW.out.trans (hM2.below hW.out.size))
        clear hH2 hM2 hDO HF3 hev hH hW
        go_wp2_with fail
        go_roundw
        case rel => exact ⟨k + 1, by go_num, by omega, hH3, hW3⟩
        case measure => simp [intOf]; omega
      · have hkl : o.take k = o := List.take_of_length_le (by omega)
        rw [hkl] at hH
        clear hkl
        obtain ⟨D, hown, hD⟩ := hH.out
        have HD := Lib.hid hD
        have hn0 : 65 * evSum l o ≤ 68157440 := by have := hsum.out; omega
        generalize 65 * evSum l o = n at *
        generalize allK l o = f at *
        have HEQ2 := HEQ.out
        subst HEQ2
        clear HEQ
        have hmr : w1.heap.size < wr.heap.size := hown.lt
        obtain ⟨r, hr⟩ : ∃ r, wr.heap.size = r := ⟨_, rfl⟩
        clear hD hH HI
        go_wp2_with (first
          | (at_range; refine wpList_range_own _ rfl _ 88 rfl 2 2 law64 (by kernel_rfl) _ w1.heap.size n _ rfl hown ?_; intro w0 hrg0 hg0 hs0)
          | go_in)
        go_frame
        rw [hr] at hrg0 hs0 ⊢
        have HG0 := Lib.hid (hW.out.grown hg0 (by omega) (fun j hj => by cases hj))
        obtain ⟨wo, rfl⟩ : ∃ wo : World, wo = wr := ⟨_, rfl⟩
        have hmr2 : w1.heap.size < r := by omega
        clear hW HW hown hg0 hr
        go_loopw [9] (fun v wr => ∃ (left : Lit → Bool) (cnt : Nat) (cs : List (Int × Int)), wr.ranges Tryz.prog 2 (plainElem Tryz.prog 2) w1.heap.size r n D left cnt ∧
            Hid (wr.ownsRow (r + 1) 91 2 v cs.length (cs.flatMap cellC)) ∧ Hid (CsOf cs left f) ∧ cs.length + cnt ≤ n ∧ Hid (Below w1.heap.size w1 wr))
          (fun _ wr => wr.rangeLeft w1.heap.size r)
        case atStart =>
          exact ⟨_, _, [], hrg0, Lib.hid (World.ownsRow_nil _ _ _ _), Lib.hid (CsOf.start (fun x v hx => by
            obtain ⟨h1, h2⟩ := HIN.out x v hx
            rw [(HD.out x (wf64 ⟨by omega, by omega⟩)).1, hx]; rfl)), by have := cnt_le hrg0; simpa using this, HG0⟩
        case round =>
          obtain ⟨left, cnt, cs, hrg, hrow, HG, hlen, HB⟩ := hrel
          go_wp2_with (first
            | (at_next; refine wpList_next_ranges_ii _ rfl _ rfl 2 2 .i64 .i64 law64 (by kernel_rfl) (by kernel_rfl) w1.heap.size r n _ _ _ rfl hrg ?_ ?_)
            | go_in)
          · intro hc0 hl0
            have hcl : cs.length < 100000000000 := by omega
            have hHB := Lib.hid (HB1.out.trans (HB.out.mono HB1.out.size))
            rcases hrow.out.2 with ⟨rfl, hk0⟩ | ⟨g, cap, cur, rfl, hbase, hb, r1⟩
            · obtain rfl : cs = [] := List.eq_nil_of_length_eq_zero hk0
              have HWI : Hid (WordsIs [] f) := Lib.hid ⟨List.Pairwise.nil, fun x v => ⟨fun h => by simp at h, fun h => HG.out.full x v h (hl0 _)⟩⟩
              clear hrg hrow HG hl0 hrg0
              go_wp2_with fail
              refine (HS.out.1 _).mono ?_
              rintro e w3 ⟨rfl, hb3⟩
              have HB3 := Lib.hid (hHB.out.trans (hb3.mono hHB.out.size))
              clear hb3
              go_wp2_with fail
              refine bodyPost_ret (v := .tuple #[.slice none 0 0, .int .i64 0]) (by simp [results, Tryz.results9, go_sem]) rfl ?_
              exact ⟨HB3.out, none, 0, [], rfl, HWI.out, fun h => absurd rfl h, Nat.zero_le _, World.ownsRow_nil _ _ _ _⟩
            · have hgr : g < wr.heap.size := (Array.getElem?_eq_some_iff.1 hb).1
              have hSO := HS.out.2 (r + 1) g cap cs _ hrow.out HG.out.nd hcl
              have hm2 : Hid (∀ x v, (x, v) ∈ cs ↔ f x = some v) := Lib.hid (fun x v => ⟨fun h => (HG.out.sound x v h).2, fun h => HG.out.full x v h (hl0 _)⟩)
              clear hrg hrow HG hl0 hrg0 hb r1
              go_wp2_with fail
              refine hSO.mono ?_
              rintro e w3 ⟨rfl, cs', hl', hm', hup, hca, hM, hon⟩
              have HWI : Hid (WordsIs cs' f) := Lib.hid ⟨hup, fun x v => (hm' (x, v)).trans (hm2.out x v)⟩
              have HB3 := Lib.hid (hHB.out.trans ((hM.below (Nat.le_of_lt hgr)).mono (by have := HB1.out.size; omega)))
              have HCA := Lib.hid hca
              have HLC : Hid (cs'.length ≤ 68157440) := Lib.hid (by omega)
              rw [← hl'] at hon ⊢
              have HON : Hid (w3.ownsRow (w.heap.size + 1) 91 2 (.slice (some ⟨g, 0, none⟩) cs'.length cap) cs'.length (cs'.flatMap cellC)) := Lib.hid (own_baseI hon (by have := HB1.out.size; omega))
              clear hl' hm' hup hca hM hm2 hSO hon
              go_wp2_with fail
              refine bodyPost_ret (v := .tuple #[.slice (some ⟨g, 0, none⟩) cs'.length cap, .int .i64 0]) (by simp [results, Tryz.results9, go_sem]) rfl ?_
              exact ⟨HB3.out, _, cap, cs', rfl, HWI.out, HCA.out, HLC.out, HON.out⟩
          · intro x c w2 cnt1 hwx hwc hlx hat hrg1 hlt hg1 hs1 hen
            have hf : Hid (f x = some c) := Lib.hid (by
              obtain ⟨h1, h2⟩ := HD.out x hwx
              rw [has_true_of_atKey hat] at h1
              rw [hat] at h2
              injection h2 with h2
              injection h2 with _ h2
              cases hfx : f x with
              | none => rw [hfx] at h1; cases h1
              | some y => rw [hfx] at h2; rw [h2]; rfl)
            have hG2 : Hid (CsOf (cs ++ [(x, c)]) (fun z => left z && !z.sameKey (.int .i64 x)) f) := Lib.hid (HG.out.step hlx hf.out)
            have hrow1 := Lib.hid (hrow.out.kept hg1 (by
              cases hob : u9.ownBlock with
              | none => exact Or.inl rfl
              | some g => exact Or.inr (fun e => by have := (hrow.out.lt g hob).1; injection e with e; omega)))
            have HB2 : Hid (Below w1.heap.size w1 w2) := Lib.hid (HB.out.grown hg1 HB.out.size (fun j hj => by injection hj with e; omega))
            have hml : wr.rangeLeft w1.heap.size r = cnt := hrg.left_eq
            have hr2 : r < w2.heap.size := hrg1.lt
            clear hrow HG HB hrg hat hg1 hlx hs1
            go_wp2_with (at_builtin; refine wpList_append_own _ rfl _ _ 32 rfl (r + 1) 91 i0 _ 2 16 Tryz.underlying32 hi0 hz0 hz1 hz2 rfl (by decide) _ _ _ rfl (hrow1.out.alloc _) ⟨w2.heap.size, 0, none⟩ 1 1 [.int .i64 x, .int .i64 c] rfl rfl ?c1 ?c2 ?c3 ?c4 ?c5 ?_)
            case c1 => exact World.news_of_block (cs := #[.int .i64 x, .int .i64 c]) (t := 91) (fr := (0, 0)) (heap_alloc_new w2 _)
            case c2 => simp [Value.oneCell']
            case c3 => unfold maxLen; omega
            case c4 => omega
            case c5 => simp; omega
            intro v' w3 hown' hgrow hnil'
            have hrg3 := (hrg1.alloc (.cells #[.int .i64 x, .int .i64 c] 91 (0, 0))).kept hgrow (by
              cases hob : u9.ownBlock with
              | none => simp
              | some g => have := (hrow1.out.lt g hob).1; intro e; injection e with e; omega) (by
              cases hob : u9.ownBlock with
              | none => simp
              | some g => have := (hrow1.out.lt g hob).1; intro e; injection e with e; omega)
            have hB3 : Hid (Below w1.heap.size w1 w3) := Lib.hid ((HB2.out.alloc HB2.out.size _).grown hgrow (by have := HB2.out.size; simp; omega) (fun kk h => by have := (hrow1.out.lt kk h).1; omega))
            have hown3 : Hid (w3.ownsRow (r + 1) 91 2 v' (cs ++ [(x, c)]).length ((cs ++ [(x, c)]).flatMap cellC)) := Lib.hid (by
              rw [List.length_append, List.flatMap_append]; exact hown')
            clear hown' hgrow hnil' hrow1 HB2 hrg1 hen
            go_wp2_with fail
            go_roundw
            case rel => exact ⟨_, cnt1, cs ++ [(x, c)], hrg3, hown3, hG2, by simp; omega, hB3⟩
            case measure => rw [hrg3.left_eq, hml]; exact hlt
  · have HK := Lib.hid hck
    have HE : Hid (∀ w', Below w.heap.size w w' → WordsOwn l w (.returned (.tuple #[.slice none 0 0, .int .i64 (checkedV l)])) w') := Lib.hid (fun w' h => ⟨h, .inl ⟨HK.out, rfl⟩⟩)
    have HN : Hid (∀ z, z = checkedV l → (z != 0) = true ∧ decide (z = 0) = false) := Lib.hid (fun z hz => by subst hz; simp [HK.out])
    clear hck
    go_enter Tryz.func9, Tryz.ntmps9
    go_wp2_with fail
    refine (HC.out _ (Below.refl _ _)).mono ?_
    rintro e w1 ⟨hb1, ⟨-, rfl⟩ | ⟨hgood, -⟩⟩
    · have hE := HE.out _ hb1
      obtain ⟨t1, t2⟩ := HN.out _ rfl
      generalize checkedV l = z at *
      go_wp2_with fail
      refine bodyPost_ret (v := .tuple #[.slice none 0 0, .int .i64 z]) (by simp [results, Tryz.results9, go_sem]) rfl ?_
      exact hE
    · exact absurd hgood HK.out
theorem words_any (hs : SortsCells) (A : Option Addr) (c : Nat) (l : List Att) (hn : l.length ≤ 1048576) (hO : ∀ x ∈ l, x.Ok) (w : World) (ha : AttsAt w w.heap.size A l) :
    Calls Tryz.prog 9 #[.slice A l.length c] w (WordsOut l w) :=
  (words_own hs A c l hn hO w ha).mono fun _ _ h => h.out
end Go.Proofs.YtjaegddnikkibaaGreatDoor
