/-
  show.Items: how many items a list of statements has.
-/
import Derived.Test.YtblnmlbkgdncnaaDoorItemsA
import Derived.Test.YtblnmlbkgdncnaaDoorTreeK
set_option linter.unusedVariables false
set_option linter.unusedSimpArgs false
namespace Go.Proofs.YtblnmlbkgdncnaaDoor
open Go.RowKit

abbrev exBox (x : Ex) : Obj := .cells #[.int .u8 x.k, .int .i64 x.n, .string ⟨x.nm.toArray⟩, .int .u8 x.t.k, .string ⟨x.t.nm.toArray⟩, .int .i64 x.t.n, .slice x.d.a x.args.length x.d.c] 33 (0, 0)
def LAt (Nb Eb Lb : Nat) (W : World) : Prop := W.heap[Lb]? = some (.cells #[.func (.func 29) #[] #[.pointer (some ⟨Nb, 0, none⟩), .pointer (some ⟨Eb, 0, none⟩), .pointer (some ⟨Lb, 0, none⟩)]] 81 (0, 0))
/-- what the count of a list holds -/
structure CtS (B Nb Eb Lb : Nat) (n : Int) (W : World) : Prop where
  ct : CtE B Nb Eb n W
  l : LAt Nb Eb Lb W
  nl : Nb ≠ Lb
section
variable {B Nb Eb Lb : Nat} {n m : Int} {W W' W1 : World}
theorem LAt.lt (h : LAt Nb Eb Lb W) : Lb < W.heap.size := (Array.getElem?_eq_some_iff.1 h).1
theorem CtS.kept (h : CtS B Nb Eb Lb n W) (hk : KpN Nb W W') (hn : NAt Nb m W') : CtS B Nb Eb Lb m W' :=
  ⟨h.ct.kept hk hn, (hk.block Lb h.l.lt (fun hh => h.nl hh.symm)).trans h.l, h.nl⟩
theorem CtS.below (h : CtS B Nb Eb Lb n W) (hb : Below W.heap.size W W') : CtS B Nb Eb Lb n W' := h.kept (Kept.of_below hb) ((hb.block Nb h.ct.n.lt).trans h.ct.n)
theorem CtS.step (h : CtS B Nb Eb Lb n W) : CtS B Nb Eb Lb (n + 1) (W.setCell ⟨Nb, 0, none⟩ (.int .i64 (n + 1))) := h.kept (KpN.set (Kept.refl _ _) _) (h.ct.n.set _)
end
/-- the two expressions of a statement, as an array -/
abbrev twoV (x y : Ex) : Value := .agg #[.int .u8 x.k, .int .i64 x.n, .string ⟨x.nm.toArray⟩, .int .u8 x.t.k, .string ⟨x.t.nm.toArray⟩, .int .i64 x.t.n, .slice x.d.a x.args.length x.d.c,
  .int .u8 y.k, .int .i64 y.n, .string ⟨y.nm.toArray⟩, .int .u8 y.t.k, .string ⟨y.t.nm.toArray⟩, .int .i64 y.t.n, .slice y.d.a y.args.length y.d.c]
theorem idx0 (x y : Ex) (w : World) : (Instr.index 82 (twoV x y) (.int .i64 0)).run Tryd.prog w = .ok x.val w := by first | kernel_rfl | rfl
theorem idx1 (x y : Ex) (w : World) : (Instr.index 82 (twoV x y) (.int .i64 1)).run Tryd.prog w = .ok y.val w := by first | kernel_rfl | rfl
theorem stCounts_mem' : ∀ {l : List St} {y : St}, y ∈ l → stCount y ≤ stCounts l
  | x :: r, y, h => by
    rw [stCounts]
    rcases List.mem_cons.1 h with rfl | h
    · omega
    · have := stCounts_mem' h; omega

set_option maxHeartbeats 16000000 in
set_option maxRecDepth 100000 in
theorem sitemL_any (B Nb Eb Lb : Nat) : ∀ (sz : Nat) (l : List St), stCounts l ≤ sz → ∀ (d : Hd) (n : Int) (w : World), CtS B Nb Eb Lb n w → StsIn w B d l → 0 ≤ n → n + (stCounts l : Int) ≤ 1000000000000 →
    Calls Tryd.prog 29 #[.slice d.a l.length d.c, .pointer (some ⟨Nb, 0, none⟩), .pointer (some ⟨Eb, 0, none⟩), .pointer (some ⟨Lb, 0, none⟩)] w fun e w' => e = .returned (.tuple #[]) ∧ NAt Nb (n + stCounts l) w' ∧ KpN Nb w w' := by
  intro sz
  induction sz using Nat.strongRecOn with
  | ind sz ih =>
  intro l hsz d n w hT hI h0 hle
  have HI := Lib.hid hI
  have HT0 := Lib.hid hT
  have HSum : Hid (0 ≤ n ∧ n + (stCounts l : Int) ≤ 1000000000000) := Lib.hid ⟨h0, hle⟩
  have HBl : Hid (∀ W, KpN Nb w W → Below B w W) := Lib.hid fun W hk => hT.ct.blw hk
  have hlen : l.length ≤ 140737488355328 := hI.len
  have HE0 : Hid (0 ≤ n ∧ n + (stCounts (l.drop 0) : Int) = n + (stCounts l : Int)) := Lib.hid ⟨h0, by rw [List.drop_zero]⟩
  clear hT hI h0 hle
  go_enter Tryd.func29, Tryd.ntmps29
  go_wp2_with fail
  go_loopw [11] (fun ii wr => ∃ (j : Nat) (m : Int), ii = .int .i64 j ∧ j ≤ l.length ∧ Hid (CtS B Nb Eb Lb m wr) ∧ Hid (KpN Nb w wr) ∧ Hid (0 ≤ m ∧ m + (stCounts (l.drop j) : Int) = n + (stCounts l : Int))) (fun ii _ => l.length - (intOf ii).toNat)
  case atStart => exact ⟨0, n, rfl, Nat.zero_le _, HT0, Lib.hid (Kept.refl _ _), HE0⟩
  case round =>
    obtain ⟨j, m, rfl, hj, hT, hK, hM⟩ := hrel
    clear HT0 HE0
    have p2 : (0 : Int) ≤ (j : Int) := Int.natCast_nonneg _
    by_cases hlt : j < l.length
    · obtain ⟨s, hs⟩ : ∃ s, l[j]? = some s := ⟨_, List.getElem?_eq_getElem hlt⟩
      have hdrop : l.drop j = s :: l.drop (j + 1) := by
        have := List.drop_eq_getElem_cons hlt
        rw [List.getElem?_eq_getElem hlt] at hs
        injection hs with hs
        rw [this, hs]
      have hkeep := HBl.out _ hK.out
      have hIr := HI.out.keep hkeep (Nat.le_refl B)
      obtain ⟨rb, ro, hda, hrb, hrow⟩ := hIr.row (by intro h0; rw [h0] at hlt; simp at hlt)
      have hsa := hrow j s hs
      have hmem := List.mem_of_getElem? hs
      have HsI := Lib.hid (hIr.sub s hmem)
      have hsc := stCounts_mem' hmem
      have hM1 := hM.out
      rw [hdrop, stCounts] at hM1
      obtain ⟨k, nm, t, x, y, bd, body, ed, els⟩ := s
      have hz := hsa.cells
      clear hsa
      dsimp only [St.k, St.nm, St.t, St.x, St.y, St.bd, St.body, St.ed, St.els] at hz
      rw [stCount] at hsc hM1
      have hgx : exGiven x ≤ exCount x := by unfold exGiven; split <;> omega
      obtain ⟨X6, hX6⟩ : ∃ X6, wr.heap.size = X6 := ⟨_, rfl⟩
      obtain ⟨w6, hw6⟩ : ∃ w6, wr.alloc (stObj k nm t x y bd.a body.length bd.c ed.a els.length ed.c) = w6 := ⟨_, rfl⟩
      have hb6 : Below wr.heap.size wr w6 := by rw [← hw6]; exact (Below.refl _ _).alloc (Nat.le_refl _) _
      have x6 : w6.heap[X6]? = some (stObj k nm t x y bd.a body.length bd.c ed.a els.length ed.c) := by rw [← hw6, ← hX6]; exact heap_alloc_new wr _
      have hXN : X6 ≠ Nb := by have := hT.out.ct.n.lt; omega
      have HT6 := Lib.hid (hT.out.below hb6)
      have HRow : Hid (∀ W, KpN Nb w6 W → W.heap[X6]? = some (stObj k nm t x y bd.a body.length bd.c ed.a els.length ed.c)) := Lib.hid fun W hk => (hk.block X6 (Array.getElem?_eq_some_iff.1 x6).1 hXN).trans x6
      have HKw : Hid (∀ W, KpN Nb w6 W → KpN Nb w W) := Lib.hid fun W hk => (hK.out.trans (Kept.of_below hb6)).trans hk
      have HBl6 : Hid (∀ W, KpN Nb w6 W → Below B wr W) := Lib.hid fun W hk => (hb6.mono hT.out.ct.hB).trans (HT6.out.ct.blw hk)
      have c0 := cell_at HT6.out.ct.n 0
      have f0 := frz_at HT6.out.ct.n 0
      have hk8 : KpN Nb w6 (w6.setCell ⟨Nb, 0, none⟩ (.int .i64 (m + 1))) := KpN.set (Kept.refl _ _) _
      have row8 := HRow.out _ hk8
      have HT8 := Lib.hid HT6.out.step
      have HK8 := Lib.hid hk8
      obtain ⟨w8, hw8⟩ : ∃ w8, w6.setCell ⟨Nb, 0, none⟩ (.int .i64 (m + 1)) = w8 := ⟨_, rfl⟩
      have r5 := cell_at row8 5
      have r6 := cell_at row8 6
      have r7 := cell_at row8 7
      have r8 := cell_at row8 8
      have r9 := cell_at row8 9
      have r10 := cell_at row8 10
      have r11 := cell_at row8 11
      have r12 := cell_at row8 12
      have r13 := cell_at row8 13
      have r14 := cell_at row8 14
      have r15 := cell_at row8 15
      have r16 := cell_at row8 16
      have r17 := cell_at row8 17
      have r18 := cell_at row8 18
      simp only [List.getElem?_toArray, List.getElem?_cons_zero, List.getElem?_cons_succ] at c0 r5 r6 r7 r8 r9 r10 r11 r12 r13 r14 r15 r16 r17 r18
      have HNm : Hid (wr.heap.size = X6 ∧ (wr.alloc (stObj k nm t x y bd.a body.length bd.c ed.a els.length ed.c)).setCell ⟨Nb, 0, none⟩ (.int .i64 (m + 1)) = w8) := Lib.hid ⟨hX6, by rw [hw6, hw8]⟩
      rw [hw8] at HT8 HK8
      rw [← hw6] at c0 f0
      rw [← hw6, ← hX6] at r5 r6 r7 r8 r9 r10 r11 r12 r13 r14 r15 r16 r17 r18
      have hsum := HSum.out
      have hMo := hM.out
      have hn1 : IntKind.i64.wrap (m + 1) = m + 1 := by rw [IntKind.wrap_i64]; push_cast at hM1; have : (0 : Int) ≤ (stCounts (l.drop (j + 1)) : Int) := Int.natCast_nonneg _; omega
      have HSt : Hid (0 ≤ m + 1 ∧ m + 1 + (exGiven x : Int) + (exGiven y : Int) + ((stCounts body : Int) + (stCounts els : Int)) ≤ 1000000000000) := Lib.hid ⟨by omega, by push_cast at hM1; have : (0 : Int) ≤ (stCounts (l.drop (j + 1)) : Int) := Int.natCast_nonneg _; omega⟩
      have HEnd : Hid (m + 1 + (exGiven x : Int) + (exGiven y : Int) + (stCounts body : Int) + (stCounts els : Int) + (stCounts (l.drop (j + 1)) : Int) = n + (stCounts l : Int)) := Lib.hid (by push_cast at hM1; omega)
      have HIhB : Hid (∀ (n' : Int) (w' : World), CtS B Nb Eb Lb n' w' → StsIn w' B bd body → 0 ≤ n' → n' + (stCounts body : Int) ≤ 1000000000000 → Calls Tryd.prog 29 #[.slice bd.a body.length bd.c, .pointer (some ⟨Nb, 0, none⟩), .pointer (some ⟨Eb, 0, none⟩), .pointer (some ⟨Lb, 0, none⟩)] w' fun e w'' => e = .returned (.tuple #[]) ∧ NAt Nb (n' + stCounts body) w'' ∧ KpN Nb w' w'') := Lib.hid fun n' w' => ih (stCounts body) (by omega) body (Nat.le_refl _) bd n' w'
      have HIhE : Hid (∀ (n' : Int) (w' : World), CtS B Nb Eb Lb n' w' → StsIn w' B ed els → 0 ≤ n' → n' + (stCounts els : Int) ≤ 1000000000000 → Calls Tryd.prog 29 #[.slice ed.a els.length ed.c, .pointer (some ⟨Nb, 0, none⟩), .pointer (some ⟨Eb, 0, none⟩), .pointer (some ⟨Lb, 0, none⟩)] w' fun e w'' => e = .returned (.tuple #[]) ∧ NAt Nb (n' + stCounts els) w'' ∧ KpN Nb w' w'') := Lib.hid fun n' w' => ih (stCounts els) (by omega) els (Nat.le_refl _) ed n' w'
      have p1 : (j : Int) < (l.length : Int) := by omega
      clear hb6 x6 hX6 hw6 hrow hIr hdrop hs hmem hsc hM hM1 hT hK ih hrb hkeep hXN hk8 row8 hw8 hgx hsum hMo HT6
      rw [hda]
      go_wp2_with (first | (refine wpList_load_list rfl 61 _ rfl _ rfl (stCells k nm t x y bd.a body.length bd.c ed.a els.length ed.c) _ hz Tryd.underlying61 rfl (stSize ..) ?_) | (refine wpList_store_row rfl 61 _ _ rfl wr.heap.size (stCells k nm t x y bd.a body.length bd.c ed.a els.length ed.c).toArray rfl rfl 61 _ (heap_alloc_new wr _) (stSizeA ..) rfl (stOne ..) ?_; rw [alloc_setRow _ _ _ _ _ rfl]))
      simp only [HNm.out.1, HNm.out.2]
      clear hz c0 f0 r5 r6 r7 r8 r9 r10 r11 r12 r13 r14 r15 r16 r17 r18 hn1
      have hgo : Hid (CtS B Nb Eb Lb (m + 1) w8) := HT8
      go_loopw [22] (fun ii wi => ∃ (i : Nat), ii = .int .i64 i ∧ i ≤ 2 ∧ Hid (CtS B Nb Eb Lb (m + 1 + (if 0 < i then (exGiven x : Int) else 0) + (if 1 < i then (exGiven y : Int) else 0)) wi) ∧ Hid (KpN Nb w6 wi)) (fun ii _ => 2 - (intOf ii).toNat)
      case atStart => exact ⟨0, rfl, by decide, Lib.hid (by simpa using hgo.out), HK8⟩
      case round =>
        obtain ⟨i, rfl, hi, HTi, HKi⟩ := hrel
        clear hgo HT8 HK8
        have hi3 : i = 0 ∨ i = 1 ∨ i = 2 := by omega
        clear hi
        rcases hi3 with rfl | rfl | rfl
        ·
          cases hne : noEx x with
          | true =>
            have HM1 : Hid (CtS B Nb Eb Lb ((m + 1 + (if 0 < 0 + 1 then (exGiven x : Int) else 0) + (if 1 < 0 + 1 then (exGiven y : Int) else 0))) wr) := Lib.hid (by have h := HTi.out; rw [show (m + 1 + (if 0 < 0 + 1 then (exGiven x : Int) else 0) + (if 1 < 0 + 1 then (exGiven y : Int) else 0)) = (m + 1 + (if 0 < 0 then (exGiven x : Int) else 0) + (if 1 < 0 then (exGiven y : Int) else 0)) by rw [show exGiven x = 0 by unfold exGiven; rw [hne]; rfl]; simp]; exact h)
            have hb6 := (Below.refl wr.heap.size wr).alloc (Nat.le_refl _) (exBox x)
            have CN := none_any x (wr.alloc (exBox x))
            rw [hne] at CN
            have HTb := Lib.hid (HM1.out.below hb6)
            have HKb := Lib.hid (HKi.out.trans (Kept.of_below hb6))
            have hidx := idx0 x y
            clear hne hb6
            go_wp2_with fail
            refine CN.mono ?_
            rintro e wn ⟨rfl, hbn⟩
            have HTn := Lib.hid (HTb.out.below hbn)
            have HKn := Lib.hid (HKb.out.trans (Kept.of_below hbn))
            clear hbn CN HTb HKb HM1 HTi HKi hidx
            go_wp2_with fail
            go_roundw
            case rel => exact ⟨0 + 1, by go_num, by decide, HTn, HKn⟩
            case measure => simp [intOf]
          | false =>
            have hb6 := (Below.refl wr.heap.size wr).alloc (Nat.le_refl _) (exBox x)
            have CN := none_any x (wr.alloc (exBox x))
            rw [hne] at CN
            have HTb := Lib.hid (HTi.out.below hb6)
            have HKb := Lib.hid (HKi.out.trans (Kept.of_below hb6))
            have xb : (wr.alloc (exBox x)).heap[wr.heap.size]? = some (exBox x) := heap_alloc_new wr _
            have hNb : wr.heap.size ≠ Nb := by have := HTi.out.ct.n.lt; omega
            have HXb := Lib.hid (And.intro xb hNb)
            have hidx := idx0 x y
            have hgv : exGiven x = exCount x := by unfold exGiven; rw [hne]; rfl
            have HGv := Lib.hid hgv
            have HzI : Hid (∀ W, KpN Nb w6 W → ExIn W B x) := Lib.hid fun W hk => HsI.out.x.keep (HBl6.out _ hk) (Nat.le_refl B)
            clear hne hb6 xb hNb hgv
            go_wp2_with fail
            refine CN.mono ?_
            rintro e wn ⟨rfl, hbn⟩
            have HTn := Lib.hid (HTb.out.below hbn)
            have HKn := Lib.hid (HKb.out.trans (Kept.of_below hbn))
            have row := (hbn.block _ (Array.getElem?_eq_some_iff.1 HXb.out.1).1).trans HXb.out.1
            have r0 := cell_at row 0
            have r1 := cell_at row 1
            have r2 := cell_at row 2
            have r3 := cell_at row 3
            have r4 := cell_at row 4
            have r5 := cell_at row 5
            have r6 := cell_at row 6
            have g0 := cell_at HTn.out.ct.e 0
            simp only [List.getElem?_toArray, List.getElem?_cons_zero, List.getElem?_cons_succ] at r0 r1 r2 r3 r4 r5 r6 g0
            have C := Lib.hid (sitemE_any B Nb Eb _ x (Nat.le_refl _) _ wn HTn.out.ct (HzI.out _ HKn.out) (by have := HSt.out; omega) (by have h1 := HSt.out; have h2 := HGv.out; omega))
            clear hbn CN HTb HKb HTi HKi hidx row
            go_wp2_with fail
            refine C.out.mono ?_
            rintro e wo ⟨rfl, hno, hko⟩
            have HTo := Lib.hid (HTn.out.kept hko hno)
            have HKo := Lib.hid (HKn.out.trans hko)
            rw [← HGv.out] at HTo
            clear hno hko C r0 r1 r2 r3 r4 r5 r6 g0 HTn HKn
            go_wp2_with fail
            go_roundw
            case rel => exact ⟨0 + 1, by go_num, by decide, Lib.hid (by rw [show (m + 1 + (if 0 < 0 + 1 then (exGiven x : Int) else 0) + (if 1 < 0 + 1 then (exGiven y : Int) else 0)) = (m + 1 + (if 0 < 0 then (exGiven x : Int) else 0) + (if 1 < 0 then (exGiven y : Int) else 0)) + (exGiven x : Int) by simp]; exact HTo.out), HKo⟩
            case measure => simp [intOf]
        ·
          cases hne : noEx y with
          | true =>
            have HM1 : Hid (CtS B Nb Eb Lb ((m + 1 + (if 0 < 1 + 1 then (exGiven x : Int) else 0) + (if 1 < 1 + 1 then (exGiven y : Int) else 0))) wr) := Lib.hid (by have h := HTi.out; rw [show (m + 1 + (if 0 < 1 + 1 then (exGiven x : Int) else 0) + (if 1 < 1 + 1 then (exGiven y : Int) else 0)) = (m + 1 + (if 0 < 1 then (exGiven x : Int) else 0) + (if 1 < 1 then (exGiven y : Int) else 0)) by rw [show exGiven y = 0 by unfold exGiven; rw [hne]; rfl]; simp]; exact h)
            have hb6 := (Below.refl wr.heap.size wr).alloc (Nat.le_refl _) (exBox y)
            have CN := none_any y (wr.alloc (exBox y))
            rw [hne] at CN
            have HTb := Lib.hid (HM1.out.below hb6)
            have HKb := Lib.hid (HKi.out.trans (Kept.of_below hb6))
            have hidx := idx1 x y
            clear hne hb6
            go_wp2_with fail
            refine CN.mono ?_
            rintro e wn ⟨rfl, hbn⟩
            have HTn := Lib.hid (HTb.out.below hbn)
            have HKn := Lib.hid (HKb.out.trans (Kept.of_below hbn))
            clear hbn CN HTb HKb HM1 HTi HKi hidx
            go_wp2_with fail
            go_roundw
            case rel => exact ⟨1 + 1, by go_num, by decide, HTn, HKn⟩
            case measure => simp [intOf]
          | false =>
            have hb6 := (Below.refl wr.heap.size wr).alloc (Nat.le_refl _) (exBox y)
            have CN := none_any y (wr.alloc (exBox y))
            rw [hne] at CN
            have HTb := Lib.hid (HTi.out.below hb6)
            have HKb := Lib.hid (HKi.out.trans (Kept.of_below hb6))
            have xb : (wr.alloc (exBox y)).heap[wr.heap.size]? = some (exBox y) := heap_alloc_new wr _
            have hNb : wr.heap.size ≠ Nb := by have := HTi.out.ct.n.lt; omega
            have HXb := Lib.hid (And.intro xb hNb)
            have hidx := idx1 x y
            have hgv : exGiven y = exCount y := by unfold exGiven; rw [hne]; rfl
            have HGv := Lib.hid hgv
            have HzI : Hid (∀ W, KpN Nb w6 W → ExIn W B y) := Lib.hid fun W hk => HsI.out.y.keep (HBl6.out _ hk) (Nat.le_refl B)
            clear hne hb6 xb hNb hgv
            go_wp2_with fail
            refine CN.mono ?_
            rintro e wn ⟨rfl, hbn⟩
            have HTn := Lib.hid (HTb.out.below hbn)
            have HKn := Lib.hid (HKb.out.trans (Kept.of_below hbn))
            have row := (hbn.block _ (Array.getElem?_eq_some_iff.1 HXb.out.1).1).trans HXb.out.1
            have r0 := cell_at row 0
            have r1 := cell_at row 1
            have r2 := cell_at row 2
            have r3 := cell_at row 3
            have r4 := cell_at row 4
            have r5 := cell_at row 5
            have r6 := cell_at row 6
            have g0 := cell_at HTn.out.ct.e 0
            simp only [List.getElem?_toArray, List.getElem?_cons_zero, List.getElem?_cons_succ] at r0 r1 r2 r3 r4 r5 r6 g0
            have C := Lib.hid (sitemE_any B Nb Eb _ y (Nat.le_refl _) _ wn HTn.out.ct (HzI.out _ HKn.out) (by have := HSt.out; omega) (by have h1 := HSt.out; have h2 := HGv.out; omega))
            clear hbn CN HTb HKb HTi HKi hidx row
            go_wp2_with fail
            refine C.out.mono ?_
            rintro e wo ⟨rfl, hno, hko⟩
            have HTo := Lib.hid (HTn.out.kept hko hno)
            have HKo := Lib.hid (HKn.out.trans hko)
            rw [← HGv.out] at HTo
            clear hno hko C r0 r1 r2 r3 r4 r5 r6 g0 HTn HKn
            go_wp2_with fail
            go_roundw
            case rel => exact ⟨1 + 1, by go_num, by decide, Lib.hid (by rw [show (m + 1 + (if 0 < 1 + 1 then (exGiven x : Int) else 0) + (if 1 < 1 + 1 then (exGiven y : Int) else 0)) = (m + 1 + (if 0 < 1 then (exGiven x : Int) else 0) + (if 1 < 1 then (exGiven y : Int) else 0)) + (exGiven y : Int) by simp]; exact HTo.out), HKo⟩
            case measure => simp [intOf]
        · have HT9 : Hid (CtS B Nb Eb Lb (m + 1 + (exGiven x : Int) + (exGiven y : Int)) wr) := Lib.hid (by have h := HTi.out; simpa using h)
          have row := HRow.out _ HKi.out
          have q19 := cell_at row 19
          have g0 := cell_at HT9.out.l 0
          simp only [List.getElem?_toArray, List.getElem?_cons_zero, List.getElem?_cons_succ] at q19 g0
          have C1 := HIhB.out _ wr HT9.out (HsI.out.body.keep (HBl6.out _ HKi.out) (Nat.le_refl B)) (by have := HSt.out; omega) (by have := HSt.out; omega)
          clear row HTi
          go_wp2_with fail
          refine C1.mono ?_
          rintro e wb ⟨rfl, hnb, hkb⟩
          have HTb := Lib.hid (HT9.out.kept hkb hnb)
          have HKb := Lib.hid (HKi.out.trans hkb)
          clear hnb hkb C1 q19 g0 HT9 HKi
          have row := HRow.out _ HKb.out
          have q20 := cell_at row 20
          have g0 := cell_at HTb.out.l 0
          simp only [List.getElem?_toArray, List.getElem?_cons_zero, List.getElem?_cons_succ] at q20 g0
          have C2 := HIhE.out _ wb HTb.out (HsI.out.els.keep (HBl6.out _ HKb.out) (Nat.le_refl B)) (by have := HSt.out; omega) (by have := HSt.out; omega)
          clear row
          go_wp2_with fail
          refine C2.mono ?_
          rintro e wc ⟨rfl, hnc, hkc⟩
          have HTc := Lib.hid (HTb.out.kept hkc hnc)
          have HKc := Lib.hid (HKw.out _ (HKb.out.trans hkc))
          have HMc : Hid (0 ≤ m + 1 + (exGiven x : Int) + (exGiven y : Int) + (stCounts body : Int) + (stCounts els : Int) ∧ m + 1 + (exGiven x : Int) + (exGiven y : Int) + (stCounts body : Int) + (stCounts els : Int) + (stCounts (l.drop (j + 1)) : Int) = n + (stCounts l : Int)) := Lib.hid ⟨by have := HSt.out; omega, HEnd.out⟩
          clear hnc hkc C2 q20 g0 HTb HKb
          go_wp2_with fail
          go_roundw
          case rel => exact ⟨j + 1, _, by go_num, by omega, HTc, HKc, HMc⟩
          case measure => simp [intOf]; omega
    · obtain rfl : j = l.length := by omega
      have HFn : Hid (NAt Nb (n + (stCounts l : Int)) wr ∧ KpN Nb w wr) := Lib.hid ⟨by have h := hM.out.2; rw [List.drop_length, stCounts] at h; rw [← h]; simpa using hT.out.ct.n, hK.out⟩
      clear hM hT hK ih
      go_wp2_with fail
      go_end0
      exact ⟨rfl, HFn.out⟩
end Go.Proofs.YtblnmlbkgdncnaaDoor
