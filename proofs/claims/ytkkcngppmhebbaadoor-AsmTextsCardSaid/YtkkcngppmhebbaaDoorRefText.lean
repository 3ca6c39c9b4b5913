/-
  The document's text of instructions, walked.
-/
import Derived.Test.YtkkcngppmhebbaaDoorRefCheck
import Derived.Test.YtkkcngppmhebbaaDoorRegion
set_option linter.unusedVariables false
set_option linter.unusedSimpArgs false
namespace Go.Proofs.YtkkcngppmhebbaaDoor
open Go.RowKit

def kindCells : List Value := kindWords.map fun l => .string ⟨l.toArray⟩
theorem kindCells_eq : (#[.string ⟨#[115, 101, 116]⟩, .string ⟨#[109, 111, 118, 101]⟩, .string ⟨#[99, 97, 108, 99]⟩, .string ⟨#[108, 111, 97, 100]⟩, .string ⟨#[115, 116, 111, 114, 101]⟩, .string ⟨#[106, 117, 109, 112]⟩, .string ⟨#[122, 101, 114, 111]⟩, .string ⟨#[99, 97, 115]⟩, .string ⟨#[120, 97, 100, 100]⟩, .string ⟨#[102, 101, 110, 99, 101]⟩, .string ⟨#[111, 117, 116]⟩, .string ⟨#[110, 111, 116, 101]⟩, .string ⟨#[116, 114, 97, 112]⟩, .string ⟨#[104, 97, 108, 116]⟩, .string ⟨#[108, 111, 111, 107]⟩] : Array Value) = kindCells.toArray := by kernel_rfl
theorem calcCells_eq : (#[.string ⟨#[97, 100, 100]⟩, .string ⟨#[115, 117, 98]⟩, .string ⟨#[109, 117, 108]⟩, .string ⟨#[100, 105, 118]⟩, .string ⟨#[109, 111, 100]⟩, .string ⟨#[97, 110, 100]⟩, .string ⟨#[111, 114]⟩, .string ⟨#[120, 111, 114]⟩, .string ⟨#[115, 104, 108]⟩, .string ⟨#[115, 104, 114]⟩, .string ⟨#[101, 113]⟩, .string ⟨#[110, 101]⟩, .string ⟨#[108, 116]⟩, .string ⟨#[108, 101]⟩] : Array Value) = calcCells.toArray := by kernel_rfl
set_option maxHeartbeats 1000000 in
set_option maxRecDepth 100000 in
theorem rnames_any (w : World) : Calls Tryd.prog 42 #[] w fun e w' => e = .returned (.slice (some ⟨w.heap.size, 0, none⟩) 15 15) ∧ w' = w.alloc (.cells kindCells.toArray 9 (0, 0)) := by
  rw [← kindCells_eq]
  go_enter Tryd.func42, Tryd.ntmps42
  go_wp2
  go_ret
  exact ⟨rfl, rfl⟩
set_option maxHeartbeats 1000000 in
set_option maxRecDepth 100000 in
theorem rcalcs_any (w : World) : Calls Tryd.prog 43 #[] w fun e w' => e = .returned (.slice (some ⟨w.heap.size, 0, none⟩) 14 14) ∧ w' = w.alloc (.cells calcCells.toArray 9 (0, 0)) := by
  rw [← calcCells_eq]
  go_enter Tryd.func43, Tryd.ntmps43
  go_wp2
  go_ret
  exact ⟨rfl, rfl⟩
theorem rnames_b (w : World) : Calls Tryd.prog 42 #[] w fun e w' => e = .returned (.slice (some ⟨w.heap.size, 0, none⟩) 15 15) ∧ Below w.heap.size w w' ∧ w'.heap[w.heap.size]? = some (.cells kindCells.toArray 9 (0, 0)) :=
  (rnames_any w).mono fun e w' ⟨he, hw⟩ => ⟨he, by rw [hw]; exact (Below.refl _ _).alloc (Nat.le_refl _) _, by rw [hw]; exact heap_alloc_new w _⟩
theorem rcalcs_b (w : World) : Calls Tryd.prog 43 #[] w fun e w' => e = .returned (.slice (some ⟨w.heap.size, 0, none⟩) 14 14) ∧ Below w.heap.size w w' ∧ w'.heap[w.heap.size]? = some (.cells calcCells.toArray 9 (0, 0)) :=
  (rcalcs_any w).mono fun e w' ⟨he, hw⟩ => ⟨he, by rw [hw]; exact (Below.refl _ _).alloc (Nat.le_refl _) _, by rw [hw]; exact heap_alloc_new w _⟩
theorem kind_at (k : Nat) (h1 : 1 ≤ k) (h2 : k ≤ 15) : kindCells[k - 1]? = some (.string ⟨(kindW k).toArray⟩) := by
  have key : ∀ i, i < 15 → kindCells[i]? = some (.string ⟨(kindWords.getD i []).toArray⟩) := by
    intro i hi
    unfold kindCells
    have hl : i < kindWords.length := hi
    rw [List.getElem?_map, List.getD, List.getElem?_eq_getElem hl]; rfl
  rw [key _ (by omega)]
  unfold kindW
  rw [Int.toNat_natCast]
theorem calc_at' (c : Nat) (h1 : 1 ≤ c) (h2 : c ≤ 14) : calcCells[c - 1]? = some (.string ⟨(calcW c).toArray⟩) := by
  rw [show c - 1 = ((c : Int) - 1).toNat by omega]
  exact calc_at c (by omega) (by omega)

/-- the text of an instruction, without the line feed -/
def lineT (o : Cmd) : List UInt8 :=
  match formV o.k with
  | none => []
  | some f => kindW o.k ++ (if f.cal then 32 :: calcW o.c else []) ++ (([o.a, o.b, o.d].take f.regs).flatMap regText) ++ (if f.num then 32 :: Lib.itoa o.n else [])
theorem textOp_line {o : Cmd} {f : Form} (h : formV o.k = some f) : textOp o = lineT o ++ [10] := by unfold textOp lineT; rw [h]
theorem cat_b' (a b : List UInt8) : (⟨a.toArray⟩ : ByteArray) ++ ⟨b.toArray⟩ = ⟨(a ++ b).toArray⟩ := by
  apply ByteArray.ext
  simp
theorem reg_take {a b d : Int} {r j : Nat} (hr : r ≤ 3) (hj : j < r) (ha : 0 ≤ a ∧ a ≤ 255) (hb : 0 ≤ b ∧ b ≤ 255) (hd : 0 ≤ d ∧ d ≤ 255) :
    ∃ v : Int, (#[.int .u8 a, .int .u8 b, .int .u8 d] : Array Value)[j]? = some (.int .u8 v) ∧ 0 ≤ v ∧ v ≤ 255 ∧ ([a, b, d].take r).drop j = v :: ([a, b, d].take r).drop (j + 1) := by
  rcases (by omega : r = 1 ∨ r = 2 ∨ r = 3) with rfl | rfl | rfl <;> rcases (by omega : j = 0 ∨ j = 1 ∨ j = 2) with rfl | rfl | rfl
  all_goals first | omega | exact ⟨a, rfl, ha.1, ha.2, rfl⟩ | exact ⟨b, rfl, hb.1, hb.2, rfl⟩ | exact ⟨d, rfl, hd.1, hd.2, rfl⟩
/-- the state of memory in Line: the instruction's box -/
abbrev BoxS (wr : World) (X : Nat) (k c : Int) (W : World) : Prop := Below wr.heap.size wr W ∧ W.cell? ⟨X, 0, none⟩ = some (.int .u8 k) ∧ W.cell? ⟨X, 1, none⟩ = some (.int .u8 c)

set_option maxHeartbeats 8000000 in
set_option maxRecDepth 100000 in
theorem rline_any (x : Cmd) (hx : x.Wf) (hok : okV x = true) (w : World) :
    Calls Tryd.prog 26 #[.agg #[.int .u8 x.k, .int .u8 x.c, .int .u8 x.a, .int .u8 x.b, .int .u8 x.d, .int .i64 x.n]] w fun e w' => e = .returned (.string ⟨(lineT x).toArray⟩) ∧ Below w.heap.size w w' := by
  obtain ⟨f, hf, hr3⟩ := okV_all hok
  have hPk := PartOk.start hok hx.c.1
  have hkk : ∃ kk : Nat, x.k = (kk : Int) ∧ 1 ≤ kk ∧ kk ≤ 15 := by
    rcases formV_cases x.k with h | ⟨h0, -⟩
    · exact ⟨x.k.toNat, by omega, by omega, by omega⟩
    · rw [h0] at hf; cases hf
  have hlt : lineT x = kindW x.k ++ (if f.cal then 32 :: calcW x.c else []) ++ (([x.a, x.b, x.d].take f.regs).flatMap regText) ++ (if f.num then 32 :: Lib.itoa x.n else []) := by unfold lineT; rw [hf]
  have hcal : f.cal = true → 1 ≤ x.c ∧ x.c ≤ 14 := fun h => hPk.c 99 (by unfold partsV; rw [hf]; simp [h]) rfl
  obtain ⟨k, c, a, b, d, n⟩ := x
  dsimp only at hf hkk hlt hcal hx
  obtain ⟨kk, rfl, hK1, hK2⟩ := hkk
  obtain ⟨V, hV⟩ : ∃ V, lineT ⟨kk, c, a, b, d, n⟩ = V := ⟨_, rfl⟩
  rw [hV]
  have CF := Lib.hid (rfields_some kk f hf)
  obtain ⟨cal, r, num, lo, hi, jump⟩ := f
  dsimp only at CF hr3 hlt hcal
  have HV : Hid (kindW kk ++ (if cal then 32 :: calcW c else []) ++ (([a, b, d].take r).flatMap regText) ++ (if num then 32 :: Lib.itoa n else []) = V) := Lib.hid (hlt.symm.trans hV)
  have HX := Lib.hid hx
  obtain ⟨X, hX⟩ : ∃ X, w.heap.size = X := ⟨_, rfl⟩
  obtain ⟨w0, hw0⟩ : ∃ w0, w.alloc (.cells #[.int .u8 kk, .int .u8 c, .int .u8 a, .int .u8 b, .int .u8 d, .int .i64 n] 37 (0, 0)) = w0 := ⟨_, rfl⟩
  have HB0 : Hid (Below w.heap.size w w0) := Lib.hid (by rw [← hw0]; exact (Below.refl _ _).alloc (Nat.le_refl _) _)
  have ho : w0.heap[X]? = some (.cells #[.int .u8 kk, .int .u8 c, .int .u8 a, .int .u8 b, .int .u8 d, .int .i64 n] 37 (0, 0)) := by rw [← hw0, ← hX]; exact heap_alloc_new w _
  have HO := Lib.hid ho
  have z0 := cell_of ho 0
  simp only [List.getElem?_toArray, List.getElem?_cons_zero] at z0
  have hnm := Lib.hid (kind_at kk hK1 hK2)
  clear hok hf hPk hlt hV hx ho
  go_enter Tryd.func26, Tryd.ntmps26
  go_wp2_with fail
  refine (CF.out _).mono ?_
  rintro e w1 ⟨rfl, hb1⟩
  obtain ⟨Y, hY⟩ : ∃ Y, w1.heap.size = Y := ⟨_, rfl⟩
  obtain ⟨w2, hw2⟩ : ∃ w2, w1.alloc (.cells #[.bool cal, .int .i64 r, .bool num] 88 (0, 0)) = w2 := ⟨_, rfl⟩
  have hb12 : Below w1.heap.size w1 w2 := by rw [← hw2]; exact (Below.refl _ _).alloc (Nat.le_refl _) _
  have HB2 : Hid (Below w.heap.size w w2) := Lib.hid ((HB0.out.trans (hb1.mono HB0.out.size)).trans (hb12.mono (Nat.le_trans HB0.out.size hb1.size)))
  have HO2 := Lib.hid (blk_below (blk_below HO.out hb1) hb12)
  have HF2 : Hid (w2.heap[Y]? = some (.cells #[.bool cal, .int .i64 r, .bool num] 88 (0, 0))) := Lib.hid (by rw [← hw2, ← hY]; exact heap_alloc_new w1 _)
  clear hb1 hb12 HO HB0 hw0 hX z0 CF
  go_wp2_with fail
  clear hw2 hY
  have hwK : IntKind.i64.wrap ((kk : Int) - 1) = ((kk - 1 : Nat) : Int) := by rw [IntKind.wrap_i64]; omega
  have p1 : ((kk - 1 : Nat) : Int) < 15 := by omega
  have p2 : (0 : Int) ≤ ((kk - 1 : Nat) : Int) := Int.natCast_nonneg _
  have HS : Hid (∀ W, Below w2.heap.size w2 W → BoxS w2 X kk c W) := Lib.hid fun W h => ⟨h, cell_of (blk_below HO2.out h) 0, cell_of (blk_below HO2.out h) 1⟩
  have hwK0 : IntKind.i64.wrap (kk : Int) = (kk : Int) := by rw [IntKind.wrap_i64]; omega
  have hcell : Hid (∀ (W : World), W.heap[w2.heap.size]? = some (.cells kindCells.toArray 9 (0, 0)) → W.cell? ⟨w2.heap.size, kk - 1, none⟩ = some (.string ⟨(kindW kk).toArray⟩)) := Lib.hid fun W h => by rw [cell_of h (kk - 1), List.getElem?_toArray]; exact hnm.out
  refine wp_region_L (l := 7) (S := (BoxS w2 X kk c)) (by kernel_rfl) ?_ (fun hHeld => ?_)
  · ((try dsimp only); (exact HS.out _ (Below.refl _ _).drew))
  refine wpAnyL_take (i := 1) (oi := _) (v := ?v1) rfl (by kernel_rfl) (fun _ _ _ h => h) (by assumption) (Or.inl ⟨by kernel_rfl, ?y1⟩) ?r1
  case y1 => (intro w hSw; (try dsimp only at hSw); go_simp; all_goals with_reducible rfl)
  try simp only [Act.put, List.setIfInBounds_toArray, List.set_cons_zero, List.set_cons_succ]
  refine wpAnyL_take (i := 2) (oi := _) (v := ?v2) rfl (by kernel_rfl) (fun _ _ _ h => h) (by assumption) (Or.inl ⟨by kernel_rfl, ?y2⟩) ?r2
  case y2 => (intro w hSw; (try dsimp only at hSw); go_simp; all_goals with_reducible rfl)
  try simp only [Act.put, List.setIfInBounds_toArray, List.set_cons_zero, List.set_cons_succ]
  refine wpAnyL_take (i := 3) (oi := _) (v := ?v3) rfl (by kernel_rfl) (fun _ _ _ h => h) (by assumption) (Or.inl ⟨by kernel_rfl, ?y3⟩) ?r3
  case y3 => (intro w hSw; (try dsimp only at hSw); go_simp; all_goals with_reducible rfl)
  try simp only [Act.put, List.setIfInBounds_toArray, List.set_cons_zero, List.set_cons_succ]
  refine wpAnyL_take (i := 4) (oi := _) (v := ?v4) rfl (by kernel_rfl) (fun _ _ _ h => h) (by assumption) (Or.inl ⟨by kernel_rfl, ?y4⟩) ?r4
  case y4 => (intro w hSw; (try dsimp only at hSw); go_simp; all_goals with_reducible rfl)
  try simp only [Act.put, List.setIfInBounds_toArray, List.set_cons_zero, List.set_cons_succ]
  refine wpAnyL_step (j := 0) (o := _) (by kernel_rfl) rfl (fun K hK => ?_)
  (go_simp; go_at_call 42; refine (rnames_b _).mono ?_; rintro e wN ⟨rfl, hbN0, hN0⟩; have hbN : Below w2.heap.size w2 wN := (Below.refl _ _).drew.trans hbN0; have hcN : wN.cell? ⟨w2.heap.size, kk - 1, none⟩ = some (.string ⟨(kindW kk).toArray⟩) := hcell.out wN hN0; clear hbN0 hN0)
  refine hK _ _ ?_ (fun hHeld => ?_)
  · ((try dsimp only); (exact HS.out _ hbN))
  clear hK K
  try simp only [Act.put, List.setIfInBounds_toArray, List.set_cons_zero, List.set_cons_succ]
  refine wpAnyL_step (j := 5) (o := _) (by kernel_rfl) rfl (fun K hK => ?_)
  go_simp
  refine hK _ _ ?_ (fun hHeld => ?_)
  · ((try dsimp only); (exact HS.out _ hbN))
  clear hK K
  try simp only [Act.put, List.setIfInBounds_toArray, List.set_cons_zero, List.set_cons_succ]
  refine wpAnyL_step (j := 6) (o := _) (by kernel_rfl) rfl (fun K hK => ?_)
  go_simp
  refine hK _ _ ?_ (fun hHeld => ?_)
  · ((try dsimp only); (exact HS.out _ hbN))
  clear hK K
  try simp only [Act.put, List.setIfInBounds_toArray, List.set_cons_zero, List.set_cons_succ]
  refine wpAnyL_last (j := 7) (o := _) (by kernel_rfl) rfl (by rfl) (by kernel_rfl) (fun K hK => ?_)
  go_simp
  (refine hK _ _ ?_; clear hK K)
  try simp only [Act.put, List.setIfInBounds_toArray, List.set_cons_zero, List.set_cons_succ]
  have HB4 : Hid (Below w.heap.size w wN) := Lib.hid (HB2.out.trans (hbN.mono HB2.out.size))
  have HO4 := Lib.hid (blk_below HO2.out hbN)
  have HF4 := Lib.hid (blk_below HF2.out hbN)
  have y0 := cell_of HF4.out 0
  simp only [List.getElem?_toArray, List.getElem?_cons_zero] at y0
  clear hHeld hbN hcN HS HB2 HO2 HF2 hcell hnm
  have hwl := kindW_len (kk : Int)
  generalize kindW (kk : Int) = wd at *
  cases cal
  · have HV2 : Hid (wd ++ (([a, b, d].take r).flatMap regText) ++ (if num then 32 :: Lib.itoa n else []) = V) := Lib.hid (by rw [← HV.out]; simp)
    clear HV hcal
    obtain ⟨Zr, hZr⟩ : ∃ Zr, wN.heap.size = Zr := ⟨_, rfl⟩
    obtain ⟨wR, hwR⟩ : ∃ wR, wN.alloc (.cells #[.int .u8 a, .int .u8 b, .int .u8 d] 5 (0, 0)) = wR := ⟨_, rfl⟩
    have hbR : Below wN.heap.size wN wR := by rw [← hwR]; exact (Below.refl _ _).alloc (Nat.le_refl _) _
    have HBR : Hid (Below w.heap.size w wR) := Lib.hid (HB4.out.trans (hbR.mono HB4.out.size))
    have HOR := Lib.hid (blk_below HO4.out hbR)
    have HFR := Lib.hid (blk_below HF4.out hbR)
    have HRR : Hid (wR.heap[Zr]? = some (.cells #[.int .u8 a, .int .u8 b, .int .u8 d] 5 (0, 0))) := Lib.hid (by rw [← hwR, ← hZr]; exact heap_alloc_new wN _)
    have x2 := cell_of HO4.out 2
    have x3 := cell_of HO4.out 3
    have x4 := cell_of HO4.out 4
    have u0 := cell_of HF4.out 0
    simp only [List.getElem?_toArray, List.getElem?_cons_zero, List.getElem?_cons_succ] at x2 x3 x4 u0
    clear hbR HB4 HO4 HF4
    go_wp2_with fail
    clear hwR hZr x2 x3 x4 u0
    go_loopw [5, 7] (fun s i wr => ∃ (j : Nat) (tt : List UInt8), i = .int .i64 j ∧ s = .string ⟨tt.toArray⟩ ∧ j ≤ r ∧ tt.length ≤ 10 + 24 * j ∧ Hid (Below wR.heap.size wR wr) ∧ Hid (tt ++ (([a, b, d].take r).drop j).flatMap regText = wd ++ ([a, b, d].take r).flatMap regText)) (fun _ i _ => r - (intOf i).toNat)
    case atStart => exact ⟨0, wd, rfl, rfl, by omega, by first | omega | (simp; omega), Lib.hid (Below.refl _ _), Lib.hid (by rw [List.drop_zero])⟩
    case round =>
      obtain ⟨j, tt, rfl, rfl, hj, htl, hW, hT⟩ := hrel
      have y1 := cell_of (blk_below HFR.out hW.out) 1
      simp only [List.getElem?_toArray, List.getElem?_cons_zero, List.getElem?_cons_succ] at y1
      by_cases hlt : j < r
      · have p1 : (j : Int) < (r : Int) := by omega
        have q1 : (j : Int) < 3 := by omega
        have q0 : (0 : Int) ≤ (j : Int) := Int.natCast_nonneg _
        obtain ⟨v, hv, hv0, hv1, hdr⟩ := reg_take (a := a) (b := b) (d := d) hr3 hlt HX.out.a HX.out.b HX.out.d
        have rc := cell_of (blk_below HRR.out hW.out) j
        rw [hv] at rc
        have hw1 : wrap64 v = v := by unfold wrap64; omega
        have CT := Lib.hid (fun W => rtext_any v (by omega) (by omega) W)
        have hT2 : Hid ((tt ++ 32 :: 114 :: Lib.itoa v) ++ (([a, b, d].take r).drop (j + 1)).flatMap regText = wd ++ ([a, b, d].take r).flatMap regText) := Lib.hid (by rw [← hT.out, hdr]; simp [regText])
        have hil := itoa_len v (by omega) (by omega)
        clear hv hdr hT
        generalize Lib.itoa v = it at *
        go_wp2_with fail
        refine (CT.out _).mono ?_
        rintro e wi ⟨rfl, hbi⟩
        have HW2 := Lib.hid (hW.out.trans (hbi.mono hW.out.size))
        clear hbi hW CT y1 rc
        go_wp2_with fail
        go_roundw
        case rel => exact ⟨j + 1, tt ++ 32 :: 114 :: it, by go_num, by rw [cat_b' tt [32, 114], cat_b' (tt ++ [32, 114]) it]; simp, by omega, by (simp; omega), HW2, hT2⟩
        case measure => simp [intOf]; omega
      · have p1 : ¬ ((j : Int) < (r : Int)) := by omega
        have hT2 : Hid (tt ++ (if num then 32 :: Lib.itoa n else []) = V) := Lib.hid (by
          have h := hT.out
          have h0 : ([a, b, d].take r).drop j = [] := List.drop_of_length_le (by rw [List.length_take]; simp; omega)
          rw [h0, List.flatMap_nil, List.append_nil] at h
          rw [← HV2.out, h])
        have y2 := cell_of (blk_below HFR.out hW.out) 2
        have x5 := cell_of (blk_below HOR.out hW.out) 5
        simp only [List.getElem?_toArray, List.getElem?_cons_zero, List.getElem?_cons_succ] at y2 x5
        have HWE : Hid (Below w.heap.size w wr) := Lib.hid (HBR.out.trans (hW.out.mono HBR.out.size))
        clear hT HV2 hW
        cases num
        · have hT3 : Hid (tt = V) := Lib.hid (by have h := hT2.out; simpa using h)
          clear hT2
          go_wp2_with fail
          go_ret
          exact ⟨ret_str (by rw [hT3.out]), HWE.out⟩
        · have hT3 : Hid (tt ++ 32 :: Lib.itoa n = V) := Lib.hid (by have h := hT2.out; simpa using h)
          have CT := Lib.hid (fun W => rtext_any n HX.out.n.1 HX.out.n.2 W)
          have hil := itoa_len n HX.out.n.1 HX.out.n.2
          clear hT2
          generalize Lib.itoa n = it at *
          go_wp2_with fail
          refine (CT.out _).mono ?_
          rintro e wi ⟨rfl, hbi⟩
          have HWF : Hid (Below w.heap.size w wi) := Lib.hid (HWE.out.trans (hbi.mono HWE.out.size))
          clear hbi HWE CT y1 y2 x5
          go_wp2_with fail
          go_ret
          exact ⟨ret_str (by rw [← hT3.out, cat_b' tt [32], cat_b' (tt ++ [32]) it]; simp), HWF.out⟩
  · obtain ⟨hc1, hc2⟩ := hcal rfl
    obtain ⟨C, rfl⟩ : ∃ C : Nat, c = (C : Int) := ⟨c.toNat, by omega⟩
    have HV2 : Hid ((wd ++ 32 :: calcW C) ++ (([a, b, d].take r).flatMap regText) ++ (if num then 32 :: Lib.itoa n else []) = V) := Lib.hid (by rw [← HV.out]; simp)
    have hcm := Lib.hid (calc_at' C (by omega) (by omega))
    have hwC : IntKind.i64.wrap ((C : Int) - 1) = ((C - 1 : Nat) : Int) := by rw [IntKind.wrap_i64]; omega
    have hwC0 : IntKind.i64.wrap (C : Int) = (C : Int) := by rw [IntKind.wrap_i64]; omega
    have p3 : ((C - 1 : Nat) : Int) < 14 := by omega
    have p4 : (0 : Int) ≤ ((C - 1 : Nat) : Int) := Int.natCast_nonneg _
    have HS : Hid (∀ W, Below wN.heap.size wN W → BoxS wN X kk C W) := Lib.hid fun W h => ⟨h, cell_of (blk_below HO4.out h) 0, cell_of (blk_below HO4.out h) 1⟩
    have hcell : Hid (∀ (W : World), W.heap[wN.heap.size]? = some (.cells calcCells.toArray 9 (0, 0)) → W.cell? ⟨wN.heap.size, C - 1, none⟩ = some (.string ⟨(calcW C).toArray⟩)) := Lib.hid fun W h => by rw [cell_of h (C - 1), List.getElem?_toArray]; exact hcm.out
    have hcl := calcW_len (C : Int)
    have h9 : ¬ 9223372036854775807 < wd.length + 1 := by omega
    have h10 : ¬ 9223372036854775807 < wd.length + 1 + (calcW (C : Int)).length := by omega
    clear HV hcal
    go_wp2_with fail
    refine wp_region_L (l := 10) (S := (BoxS wN X kk C)) (by kernel_rfl) ?_ (fun hHeld => ?_)
    · ((try dsimp only); (exact HS.out _ (Below.refl _ _).drew))
    refine wpAnyL_take (i := 0) (oi := _) (v := ?v9) rfl (by kernel_rfl) (fun _ _ _ h => h) (by assumption) (Or.inl ⟨by kernel_rfl, ?y9⟩) ?r9
    case y9 => (intro w hSw; (try dsimp only at hSw); go_simp; all_goals with_reducible rfl)
    try simp only [Act.put, List.setIfInBounds_toArray, List.set_cons_zero, List.set_cons_succ]
    refine wpAnyL_take (i := 1) (oi := _) (v := ?v10) rfl (by kernel_rfl) (fun _ _ _ h => h) (by assumption) (Or.inl ⟨by kernel_rfl, ?y10⟩) ?r10
    case y10 => (intro w hSw; (try dsimp only at hSw); go_simp; all_goals with_reducible rfl)
    try simp only [Act.put, List.setIfInBounds_toArray, List.set_cons_zero, List.set_cons_succ]
    refine wpAnyL_take (i := 3) (oi := _) (v := ?v11) rfl (by kernel_rfl) (fun _ _ _ h => h) (by assumption) (Or.inl ⟨by kernel_rfl, ?y11⟩) ?r11
    case y11 => (intro w hSw; (try dsimp only at hSw); go_simp; all_goals with_reducible rfl)
    try simp only [Act.put, List.setIfInBounds_toArray, List.set_cons_zero, List.set_cons_succ]
    refine wpAnyL_take (i := 4) (oi := _) (v := ?v12) rfl (by kernel_rfl) (fun _ _ _ h => h) (by assumption) (Or.inl ⟨by kernel_rfl, ?y12⟩) ?r12
    case y12 => (intro w hSw; (try dsimp only at hSw); go_simp; all_goals with_reducible rfl)
    try simp only [Act.put, List.setIfInBounds_toArray, List.set_cons_zero, List.set_cons_succ]
    refine wpAnyL_take (i := 5) (oi := _) (v := ?v13) rfl (by kernel_rfl) (fun _ _ _ h => h) (by assumption) (Or.inl ⟨by kernel_rfl, ?y13⟩) ?r13
    case y13 => (intro w hSw; (try dsimp only at hSw); go_simp; all_goals with_reducible rfl)
    try simp only [Act.put, List.setIfInBounds_toArray, List.set_cons_zero, List.set_cons_succ]
    refine wpAnyL_take (i := 6) (oi := _) (v := ?v14) rfl (by kernel_rfl) (fun _ _ _ h => h) (by assumption) (Or.inl ⟨by kernel_rfl, ?y14⟩) ?r14
    case y14 => (intro w hSw; (try dsimp only at hSw); go_simp; all_goals with_reducible rfl)
    try simp only [Act.put, List.setIfInBounds_toArray, List.set_cons_zero, List.set_cons_succ]
    refine wpAnyL_step (j := 2) (o := _) (by kernel_rfl) rfl (fun K hK => ?_)
    (go_simp; go_at_call 43; refine (rcalcs_b _).mono ?_; rintro e wM ⟨rfl, hbN0, hN0⟩; have hbM : Below wN.heap.size wN wM := (Below.refl _ _).drew.trans hbN0; have hcM : wM.cell? ⟨wN.heap.size, C - 1, none⟩ = some (.string ⟨(calcW C).toArray⟩) := hcell.out wM hN0; clear hbN0 hN0)
    refine hK _ _ ?_ (fun hHeld => ?_)
    · ((try dsimp only); (exact HS.out _ hbM))
    clear hK K
    try simp only [Act.put, List.setIfInBounds_toArray, List.set_cons_zero, List.set_cons_succ]
    refine wpAnyL_step (j := 7) (o := _) (by kernel_rfl) rfl (fun K hK => ?_)
    go_simp
    refine hK _ _ ?_ (fun hHeld => ?_)
    · ((try dsimp only); (exact HS.out _ hbM))
    clear hK K
    try simp only [Act.put, List.setIfInBounds_toArray, List.set_cons_zero, List.set_cons_succ]
    refine wpAnyL_step (j := 8) (o := _) (by kernel_rfl) rfl (fun K hK => ?_)
    go_simp
    refine hK _ _ ?_ (fun hHeld => ?_)
    · ((try dsimp only); (exact HS.out _ hbM))
    clear hK K
    try simp only [Act.put, List.setIfInBounds_toArray, List.set_cons_zero, List.set_cons_succ]
    refine wpAnyL_step (j := 9) (o := _) (by kernel_rfl) rfl (fun K hK => ?_)
    go_simp
    refine hK _ _ ?_ (fun hHeld => ?_)
    · ((try dsimp only); (exact HS.out _ hbM))
    clear hK K
    try simp only [Act.put, List.setIfInBounds_toArray, List.set_cons_zero, List.set_cons_succ]
    refine wpAnyL_last (j := 10) (o := _) (by kernel_rfl) rfl (by rfl) (by kernel_rfl) (fun K hK => ?_)
    go_simp
    (refine hK _ _ ?_; clear hK K)
    try simp only [Act.put, List.setIfInBounds_toArray, List.set_cons_zero, List.set_cons_succ]
    have HB5 : Hid (Below w.heap.size w wM) := Lib.hid (HB4.out.trans (hbM.mono HB4.out.size))
    have HO5 := Lib.hid (blk_below HO4.out hbM)
    have HF5 := Lib.hid (blk_below HF4.out hbM)
    clear hHeld hbM hcM HS HB4 HO4 HF4 hcell hcm y0
    generalize calcW (C : Int) = cw at *
    obtain ⟨Zr, hZr⟩ : ∃ Zr, wM.heap.size = Zr := ⟨_, rfl⟩
    obtain ⟨wR, hwR⟩ : ∃ wR, wM.alloc (.cells #[.int .u8 a, .int .u8 b, .int .u8 d] 5 (0, 0)) = wR := ⟨_, rfl⟩
    have hbR : Below wM.heap.size wM wR := by rw [← hwR]; exact (Below.refl _ _).alloc (Nat.le_refl _) _
    have HBR : Hid (Below w.heap.size w wR) := Lib.hid (HB5.out.trans (hbR.mono HB5.out.size))
    have HOR := Lib.hid (blk_below HO5.out hbR)
    have HFR := Lib.hid (blk_below HF5.out hbR)
    have HRR : Hid (wR.heap[Zr]? = some (.cells #[.int .u8 a, .int .u8 b, .int .u8 d] 5 (0, 0))) := Lib.hid (by rw [← hwR, ← hZr]; exact heap_alloc_new wM _)
    have x2 := cell_of HO5.out 2
    have x3 := cell_of HO5.out 3
    have x4 := cell_of HO5.out 4
    have u0 := cell_of HF5.out 0
    simp only [List.getElem?_toArray, List.getElem?_cons_zero, List.getElem?_cons_succ] at x2 x3 x4 u0
    clear hbR HB5 HO5 HF5
    go_wp2_with fail
    clear hwR hZr x2 x3 x4 u0
    go_loopw [5, 7] (fun s i wr => ∃ (j : Nat) (tt : List UInt8), i = .int .i64 j ∧ s = .string ⟨tt.toArray⟩ ∧ j ≤ r ∧ tt.length ≤ 10 + 24 * j ∧ Hid (Below wR.heap.size wR wr) ∧ Hid (tt ++ (([a, b, d].take r).drop j).flatMap regText = (wd ++ 32 :: cw) ++ ([a, b, d].take r).flatMap regText)) (fun _ i _ => r - (intOf i).toNat)
    case atStart => exact ⟨0, (wd ++ 32 :: cw), rfl, by rw [cat_b' wd [32], cat_b' (wd ++ [32]) cw]; simp, by omega, by first | omega | (simp; omega), Lib.hid (Below.refl _ _), Lib.hid (by rw [List.drop_zero])⟩
    case round =>
      obtain ⟨j, tt, rfl, rfl, hj, htl, hW, hT⟩ := hrel
      have y1 := cell_of (blk_below HFR.out hW.out) 1
      simp only [List.getElem?_toArray, List.getElem?_cons_zero, List.getElem?_cons_succ] at y1
      by_cases hlt : j < r
      · have p1 : (j : Int) < (r : Int) := by omega
        have q1 : (j : Int) < 3 := by omega
        have q0 : (0 : Int) ≤ (j : Int) := Int.natCast_nonneg _
        obtain ⟨v, hv, hv0, hv1, hdr⟩ := reg_take (a := a) (b := b) (d := d) hr3 hlt HX.out.a HX.out.b HX.out.d
        have rc := cell_of (blk_below HRR.out hW.out) j
        rw [hv] at rc
        have hw1 : wrap64 v = v := by unfold wrap64; omega
        have CT := Lib.hid (fun W => rtext_any v (by omega) (by omega) W)
        have hT2 : Hid ((tt ++ 32 :: 114 :: Lib.itoa v) ++ (([a, b, d].take r).drop (j + 1)).flatMap regText = (wd ++ 32 :: cw) ++ ([a, b, d].take r).flatMap regText) := Lib.hid (by rw [← hT.out, hdr]; simp [regText])
        have hil := itoa_len v (by omega) (by omega)
        clear hv hdr hT
        generalize Lib.itoa v = it at *
        go_wp2_with fail
        refine (CT.out _).mono ?_
        rintro e wi ⟨rfl, hbi⟩
        have HW2 := Lib.hid (hW.out.trans (hbi.mono hW.out.size))
        clear hbi hW CT y1 rc
        go_wp2_with fail
        go_roundw
        case rel => exact ⟨j + 1, tt ++ 32 :: 114 :: it, by go_num, by rw [cat_b' tt [32, 114], cat_b' (tt ++ [32, 114]) it]; simp, by omega, by (simp; omega), HW2, hT2⟩
        case measure => simp [intOf]; omega
      · have p1 : ¬ ((j : Int) < (r : Int)) := by omega
        have hT2 : Hid (tt ++ (if num then 32 :: Lib.itoa n else []) = V) := Lib.hid (by
          have h := hT.out
          have h0 : ([a, b, d].take r).drop j = [] := List.drop_of_length_le (by rw [List.length_take]; simp; omega)
          rw [h0, List.flatMap_nil, List.append_nil] at h
          rw [← HV2.out, h])
        have y2 := cell_of (blk_below HFR.out hW.out) 2
        have x5 := cell_of (blk_below HOR.out hW.out) 5
        simp only [List.getElem?_toArray, List.getElem?_cons_zero, List.getElem?_cons_succ] at y2 x5
        have HWE : Hid (Below w.heap.size w wr) := Lib.hid (HBR.out.trans (hW.out.mono HBR.out.size))
        clear hT HV2 hW
        cases num
        · have hT3 : Hid (tt = V) := Lib.hid (by have h := hT2.out; simpa using h)
          clear hT2
          go_wp2_with fail
          go_ret
          exact ⟨ret_str (by rw [hT3.out]), HWE.out⟩
        · have hT3 : Hid (tt ++ 32 :: Lib.itoa n = V) := Lib.hid (by have h := hT2.out; simpa using h)
          have CT := Lib.hid (fun W => rtext_any n HX.out.n.1 HX.out.n.2 W)
          have hil := itoa_len n HX.out.n.1 HX.out.n.2
          clear hT2
          generalize Lib.itoa n = it at *
          go_wp2_with fail
          refine (CT.out _).mono ?_
          rintro e wi ⟨rfl, hbi⟩
          have HWF : Hid (Below w.heap.size w wi) := Lib.hid (HWE.out.trans (hbi.mono HWE.out.size))
          clear hbi HWE CT y1 y2 x5
          go_wp2_with fail
          go_ret
          exact ⟨ret_str (by rw [← hT3.out, cat_b' tt [32], cat_b' (tt ++ [32]) it]; simp), HWF.out⟩
end Go.Proofs.YtkkcngppmhebbaaDoor
