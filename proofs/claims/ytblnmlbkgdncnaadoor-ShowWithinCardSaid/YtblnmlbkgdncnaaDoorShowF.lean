/-
  show: a block, a statement, written.
-/
import Derived.Test.YtblnmlbkgdncnaaDoorShowD
import Derived.Test.YtblnmlbkgdncnaaDoorTreeK
set_option linter.unusedVariables false
set_option linter.unusedSimpArgs false
namespace Go.Proofs.YtblnmlbkgdncnaaDoor
open Go.RowKit

/-- a list of statements is written behind what is held -/
def ListC (Bb : Nat) (wB : World) (d : Hd) (l : List St) : Prop := ∀ (ind t : List UInt8) (W : World), TxSt Bb wB t W → ind.length + 2 * stCounts l ≤ 1000000 → t.length + (stTexts l ind).length ≤ 140737488355328 →
  Calls Tryd.prog 47 #[.pointer (some ⟨Bb, 0, none⟩), .slice d.a l.length d.c, .string ⟨ind.toArray⟩] W fun e w' => e = .returned (.tuple #[]) ∧ TxOut Bb wB (wSts t l ind) W w'

set_option maxHeartbeats 4000000 in
theorem sblock_of (Bb : Nat) (wB : World) (d : Hd) (l : List St) (ind : List UInt8) (CL : ListC Bb wB d l) (t : List UInt8) (W : World) (h : TxSt Bb wB t W) (hi : ind.length + 2 + 2 * stCounts l ≤ 1000000)
    (hl : t.length + ((stTexts l (ind ++ [32, 32])).length + ind.length + 3) ≤ 140737488355328) :
    Calls Tryd.prog 27 #[.pointer (some ⟨Bb, 0, none⟩), .slice d.a l.length d.c, .string ⟨ind.toArray⟩] W fun e w' => e = .returned (.tuple #[]) ∧ TxOut Bb wB (wSts (t ++ [123, 10]) l (ind ++ [32, 32]) ++ (ind ++ [125])) W w' := by
  have O1 := Lib.hid (TxOut.refl h)
  have HL := Lib.hid hl
  have HC := Lib.hid CL
  have HIn := Lib.hid hi
  have hws := Lib.hid (wSts_is (t ++ [123, 10]) l (ind ++ [32, 32])).2
  have c1 : ¬ (9223372036854775807 < ind.length + 2) := by omega
  have c2 : ¬ (9223372036854775807 < ind.length + 1) := by omega
  obtain ⟨ws, hw⟩ : ∃ ws, wSts (t ++ [123, 10]) l (ind ++ [32, 32]) = ws := ⟨_, rfl⟩
  rw [hw] at hws ⊢
  have HW := Lib.hid hw
  have e2 : (⟨ind.toArray⟩ : ByteArray) ++ ⟨#[32, 32]⟩ = ⟨(ind ++ [32, 32]).toArray⟩ := cat_b ind [32, 32]
  clear h hl CL hi hw
  go_enter Tryd.func27, Tryd.ntmps27
  go_wp2_with fail
  refine (put_any' Bb wB (t) [123, 10] _ rfl W O1.out.st (by have := HL.out; simp; omega)).mono ?_
  rintro e w2 ⟨rfl, hO⟩
  have O2 := Lib.hid (O1.out.trans hO)
  clear hO
  go_wp2_with fail
  refine (HC.out (ind ++ [32, 32]) (t ++ [123, 10]) w2 O2.out.st (by have := HIn.out; simp; omega) (by have := HL.out; simp; omega)).mono ?_
  rintro e w3 ⟨rfl, hO⟩
  rw [HW.out] at hO
  have O3 := Lib.hid (O2.out.trans hO)
  clear hO
  go_wp2_with fail
  refine (put_any' Bb wB ws (ind ++ [125]) _ (cat_b ind [125]) w3 O3.out.st (by have h1 := HL.out; have h2 := hws.out; simp at h1 h2 ⊢; omega)).mono ?_
  rintro e w4 ⟨rfl, hO⟩
  have O4 := Lib.hid (O3.out.trans hO)
  clear hO
  go_wp2_with fail
  go_end0
  exact ⟨rfl, O4.out⟩
theorem stObj_ne (k : Int) (nm : List UInt8) (t : Ty) (x y : Ex) (A : Option Addr) (l c : Nat) (B : Option Addr) (m e : Nat) : ∀ cs fz, stObj k nm t x y A l c B m e ≠ .cells cs 5 fz := fun cs fz e => by injection e with _ e; exact absurd e (by decide)

set_option maxHeartbeats 40000000 in
set_option maxRecDepth 100000 in
theorem sstmt_any (Bb : Nat) (wB : World) (HG : Hid (∀ W, Below Bb wB W → Globs W)) (s : St) (hI : StIn wB Bb s) (hg : ∃ deep a a', chkSt s deep a = .on a') (hB : ListC Bb wB s.bd s.body) (hE : ListC Bb wB s.ed s.els)
    (ind t : List UInt8) (W : World) (h : TxSt Bb wB t W) (hi : ind.length + 2 * stCount s ≤ 1000000) (hl : t.length + (stText s ind).length ≤ 140737488355328) :
    Calls Tryd.prog 63 #[.pointer (some ⟨Bb, 0, none⟩), s.val, .string ⟨ind.toArray⟩] W fun e w' => e = .returned (.tuple #[]) ∧ TxOut Bb wB (wSt t s ind) W w' := by
  obtain ⟨deep, a, a', hg⟩ := hg
  have g := chkSt_on hg
  have hkk := form_k g.form
  have HCX : Hid (¬ (s.k = 5 ∨ ((s.k = 1 ∨ s.k = 7) ∧ noEx s.x = true)) → ExprC Bb wB s.x) := Lib.hid fun hn => sexpr_any Bb wB HG _ s.x (Nat.le_refl _) hI.x (by obtain ⟨it, m, h⟩ := g.x hn; exact ⟨_, _, _, h⟩)
  have HCY : Hid (s.k = 2 → ExprC Bb wB s.y) := Lib.hid fun hn => sexpr_any Bb wB HG _ s.y (Nat.le_refl _) hI.y (by obtain ⟨it, m, h⟩ := g.y hn; exact ⟨_, _, _, h⟩)
  obtain ⟨k, nm, ty, x, y, bd, body, ed, els⟩ := s
  dsimp only [St.k, St.nm, St.t, St.x, St.y, St.bd, St.body, St.ed, St.els] at hkk HCX HCY hB hE
  have HOk : Hid (lenOk nm.length ∧ ty.Ok) := Lib.hid ⟨hI.nm, hI.t⟩
  have HIn : Hid (ind.length + 2 + 2 * stCounts body ≤ 1000000 ∧ ind.length + 2 + 2 * stCounts els ≤ 1000000) := Lib.hid (by rw [stCount] at hi; exact ⟨by omega, by omega⟩)
  obtain ⟨X, hX⟩ : ∃ X, W.heap.size = X := ⟨_, rfl⟩
  obtain ⟨w1, hw1⟩ : ∃ w1, W.alloc (stObj k nm ty x y bd.a body.length bd.c ed.a els.length ed.c) = w1 := ⟨_, rfl⟩
  have hb1 : Below W.heap.size W w1 := by rw [← hw1]; exact (Below.refl _ _).alloc (Nat.le_refl _) _
  have x1 : w1.heap[X]? = some (stObj k nm ty x y bd.a body.length bd.c ed.a els.length ed.c) := by rw [← hw1, ← hX]; exact heap_alloc_new W _
  have hXB : X ≠ Bb := by have := h.lt; omega
  have O1 := Lib.hid (TxOut.refl (h.keep hb1))
  have HW0 : Hid (Stay Bb W w1) := Lib.hid (.of hb1)
  have HRow : Hid (∀ W', Stay Bb w1 W' → W'.heap[X]? = some (stObj k nm ty x y bd.a body.length bd.c ed.a els.length ed.c)) := Lib.hid fun W' hs => hs X _ x1 hXB (stObj_ne _ _ _ _ _ _ _ _ _ _ _)
  have HN := Lib.hid (And.intro hX hw1)
  have HL := Lib.hid hl
  obtain ⟨T, hT⟩ : ∃ T, wSt t (.mk k nm ty x y bd body ed els) ind = T := ⟨_, rfl⟩
  rw [hT]
  have HT := Lib.hid hT
  dsimp only [St.val, St.k, St.nm, St.t, St.x, St.y, St.bd, St.body, St.ed, St.els]
  clear hX hw1 hb1 x1 hXB h hl hI hg g hT hi
  have hcs : k = 1 ∨ k = 2 ∨ k = 3 ∨ k = 4 ∨ k = 5 ∨ k = 6 ∨ k = 7 ∨ k = 8 := by omega
  clear hkk
  rcases hcs with rfl | rfl | rfl | rfl | rfl | rfl | rfl | rfl
  · -- a variable
    rw [wSt, if_neg (by decide), if_neg (by decide), if_neg (by decide), stText, if_pos rfl] at HT
    rw [stText, if_pos rfl] at HL
    have c1 : ¬ (9223372036854775807 < 4 + nm.length) := by have h := HOk.out.1; unfold lenOk at h; omega
    have c2 : ¬ (9223372036854775807 < 4 + nm.length + 1) := by have h := HOk.out.1; unfold lenOk at h; omega
    go_enter Tryd.func63, Tryd.ntmps63
    go_wp2_with fail
    simp only [HN.out.1, HN.out.2]
    refine wp_region_L (l := 7) (S := (fun W' => W'.cell? ⟨X, 1, none⟩ = some (.string ⟨nm.toArray⟩))) (by kernel_rfl) ?_ (fun hHeld => ?_)
    · ((try dsimp only); (exact cell_at (HRow.out _ (Stay.refl _ _)) 1))
    refine wpAnyL_take (i := 0) (oi := _) (v := ?v1) rfl (by kernel_rfl) (fun _ _ _ h => h) (by assumption) (Or.inl ⟨by kernel_rfl, ?y1⟩) ?r1
    case y1 => (intro w hSw; (try dsimp only at hSw); go_simp; all_goals with_reducible rfl)
    try simp only [List.getElem_toArray, List.getElem_cons_zero, List.getElem_cons_succ, Act.put, List.setIfInBounds_toArray, List.set_cons_zero, List.set_cons_succ]
    refine wpAnyL_take (i := 1) (oi := _) (v := ?v2) rfl (by kernel_rfl) (fun _ _ _ h => h) (by assumption) (Or.inl ⟨by kernel_rfl, ?y2⟩) ?r2
    case y2 => (intro w hSw; (try dsimp only at hSw); go_simp; all_goals with_reducible rfl)
    try simp only [List.getElem_toArray, List.getElem_cons_zero, List.getElem_cons_succ, Act.put, List.setIfInBounds_toArray, List.set_cons_zero, List.set_cons_succ]
    refine wpAnyL_take (i := 2) (oi := _) (v := ?v3) rfl (by kernel_rfl) (fun _ _ _ h => h) (by assumption) (Or.inl ⟨by kernel_rfl, ?y3⟩) ?r3
    case y3 => (intro w hSw; (try dsimp only at hSw); go_simp; all_goals with_reducible rfl)
    try simp only [List.getElem_toArray, List.getElem_cons_zero, List.getElem_cons_succ, Act.put, List.setIfInBounds_toArray, List.set_cons_zero, List.set_cons_succ]
    refine wpAnyL_take (i := 3) (oi := _) (v := ?v4) rfl (by kernel_rfl) (fun _ _ _ h => h) (by assumption) (Or.inl ⟨by kernel_rfl, ?y4⟩) ?r4
    case y4 => (intro w hSw; (try dsimp only at hSw); go_simp; all_goals with_reducible rfl)
    try simp only [List.getElem_toArray, List.getElem_cons_zero, List.getElem_cons_succ, Act.put, List.setIfInBounds_toArray, List.set_cons_zero, List.set_cons_succ]
    refine wpAnyL_take (i := 4) (oi := _) (v := ?v5) rfl (by kernel_rfl) (fun _ _ _ h => h) (by assumption) (Or.inl ⟨by kernel_rfl, ?y5⟩) ?r5
    case y5 => (intro w hSw; (try dsimp only at hSw); go_simp; all_goals with_reducible rfl)
    try simp only [List.getElem_toArray, List.getElem_cons_zero, List.getElem_cons_succ, Act.put, List.setIfInBounds_toArray, List.set_cons_zero, List.set_cons_succ]
    refine wpAnyL_take (i := 5) (oi := _) (v := ?v6) rfl (by kernel_rfl) (fun _ _ _ h => h) (by assumption) (Or.inl ⟨by kernel_rfl, ?y6⟩) ?r6
    case y6 => (intro w hSw; (try dsimp only at hSw); go_simp; all_goals with_reducible rfl)
    try simp only [List.getElem_toArray, List.getElem_cons_zero, List.getElem_cons_succ, Act.put, List.setIfInBounds_toArray, List.set_cons_zero, List.set_cons_succ]
    refine wpAnyL_take (i := 6) (oi := _) (v := ?v7) rfl (by kernel_rfl) (fun _ _ _ h => h) (by assumption) (Or.inl ⟨by kernel_rfl, ?y7⟩) ?r7
    case y7 => (intro w hSw; (try dsimp only at hSw); go_simp; all_goals with_reducible rfl)
    try simp only [List.getElem_toArray, List.getElem_cons_zero, List.getElem_cons_succ, Act.put, List.setIfInBounds_toArray, List.set_cons_zero, List.set_cons_succ]
    refine wpAnyL_last (j := 7) (o := _) (by kernel_rfl) rfl (by rfl) (by kernel_rfl) (fun K hK => ?_)
    (go_simp; go_at_call 25; refine (put_any' Bb wB t ([118, 97, 114, 32] ++ nm ++ [32]) _ (cat_b3 [118, 97, 114, 32] nm [32]) _ (O1.out.below (Below.refl _ _).drew).st (by have := HL.out; simp at this ⊢; omega)).mono ?_; rintro e w2 ⟨rfl, hO2⟩; have O2 := Lib.hid ((O1.out.below (Below.refl _ _).drew).trans hO2); clear hO2)
    (refine hK _ _ ?_; clear hK K)
    try simp only [List.getElem_toArray, List.getElem_cons_zero, List.getElem_cons_succ, Act.put, List.setIfInBounds_toArray, List.set_cons_zero, List.set_cons_succ]
    clear hHeld c1 c2
    have row := HRow.out _ O2.out.stay
    have q2 := cell_at row 2
    have q3 := cell_at row 3
    have q4 := cell_at row 4
    simp only [List.getElem?_toArray, List.getElem?_cons_zero, List.getElem?_cons_succ] at q2 q3 q4
    clear row
    go_wp2_with fail
    refine (styp_any Bb wB (t ++ ([118, 97, 114, 32] ++ nm ++ [32])) ty w2 O2.out.st (HG.out _ O2.out.st.bel) HOk.out.2 (by have := HL.out; simp at this ⊢; omega)).mono ?_
    rintro e w3 ⟨rfl, hO3⟩
    have O3 := Lib.hid (O2.out.trans hO3)
    clear hO3 q2 q3 q4
    cases hne : noEx x with
    | true =>
      rw [hne, if_pos rfl] at HT HL
      have row := HRow.out _ O3.out.stay
      have r0 := cell_at row 5
      have r1 := cell_at row (5 + 1)
      have r2 := cell_at row (5 + 2)
      have r3 := cell_at row (5 + 3)
      have r4 := cell_at row (5 + 4)
      have r5 := cell_at row (5 + 5)
      have r6 := cell_at row (5 + 6)
      simp only [List.getElem?_toArray, List.getElem?_cons_zero, List.getElem?_cons_succ, Nat.reduceAdd] at r0 r1 r2 r3 r4 r5 r6
      clear row
      have CN := none_any x w3
      rw [hne] at CN
      go_wp2_with fail
      refine CN.mono ?_
      rintro e w4 ⟨rfl, hbn⟩
      have O4 := Lib.hid (O3.out.below hbn)
      clear hbn r0 r1 r2 r3 r4 r5 r6 CN
      go_wp2_with fail
      refine (put_any' Bb wB (t ++ ([118, 97, 114, 32] ++ nm ++ [32]) ++ tyText ty) [59] _ rfl w4 O4.out.st (by have := HL.out; simp at this ⊢; omega)).mono ?_
      rintro e wz ⟨rfl, hO⟩
      have OZ := Lib.hid (O4.out.trans hO)
      clear hO
      have OF : Hid (TxOut Bb wB T W wz) := Lib.hid ((TxOut.mk OZ.out.st (HW0.out.trans OZ.out.stay)).eq (by rw [← HT.out]; simp))
      go_wp2_with fail
      go_end0
      exact ⟨rfl, OF.out⟩
    | false =>
      rw [hne, if_neg (by decide)] at HT HL
      have HC := HCX.out (by rw [hne]; simp)
      have row := HRow.out _ O3.out.stay
      have r0 := cell_at row 5
      have r1 := cell_at row (5 + 1)
      have r2 := cell_at row (5 + 2)
      have r3 := cell_at row (5 + 3)
      have r4 := cell_at row (5 + 4)
      have r5 := cell_at row (5 + 5)
      have r6 := cell_at row (5 + 6)
      simp only [List.getElem?_toArray, List.getElem?_cons_zero, List.getElem?_cons_succ, Nat.reduceAdd] at r0 r1 r2 r3 r4 r5 r6
      clear row
      have CN := none_any x w3
      rw [hne] at CN
      go_wp2_with fail
      refine CN.mono ?_
      rintro e w4 ⟨rfl, hbn⟩
      have O4 := Lib.hid (O3.out.below hbn)
      clear hbn r0 r1 r2 r3 r4 r5 r6 CN
      go_wp2_with fail
      refine (put_any' Bb wB (t ++ ([118, 97, 114, 32] ++ nm ++ [32]) ++ tyText ty) [32, 61, 32] _ rfl w4 O4.out.st (by have := HL.out; simp at this ⊢; omega)).mono ?_
      rintro e w5 ⟨rfl, hO⟩
      have O5 := Lib.hid (O4.out.trans hO)
      clear hO
      have row := HRow.out _ O5.out.stay
      have r0 := cell_at row 5
      have r1 := cell_at row (5 + 1)
      have r2 := cell_at row (5 + 2)
      have r3 := cell_at row (5 + 3)
      have r4 := cell_at row (5 + 4)
      have r5 := cell_at row (5 + 5)
      have r6 := cell_at row (5 + 6)
      simp only [List.getElem?_toArray, List.getElem?_cons_zero, List.getElem?_cons_succ, Nat.reduceAdd] at r0 r1 r2 r3 r4 r5 r6
      clear row
      go_wp2_with fail
      refine (HC (t ++ ([118, 97, 114, 32] ++ nm ++ [32]) ++ tyText ty ++ [32, 61, 32]) w5 O5.out.st (by have := HL.out; simp at this ⊢; omega)).mono ?_
      rintro e w6 ⟨rfl, hO⟩
      have O6 := Lib.hid (O5.out.trans hO)
      clear hO r0 r1 r2 r3 r4 r5 r6
      go_wp2_with fail
      refine (put_any' Bb wB (t ++ ([118, 97, 114, 32] ++ nm ++ [32]) ++ tyText ty ++ [32, 61, 32] ++ exText x) [59] _ rfl w6 O6.out.st (by have := HL.out; simp at this ⊢; omega)).mono ?_
      rintro e wz ⟨rfl, hO⟩
      have OZ := Lib.hid (O6.out.trans hO)
      clear hO
      have OF : Hid (TxOut Bb wB T W wz) := Lib.hid ((TxOut.mk OZ.out.st (HW0.out.trans OZ.out.stay)).eq (by rw [← HT.out]; simp))
      go_wp2_with fail
      go_end0
      exact ⟨rfl, OF.out⟩
  · -- set
    rw [wSt, if_neg (by decide), if_neg (by decide), if_neg (by decide), stText, if_neg (by decide), if_pos rfl] at HT
    rw [stText, if_neg (by decide), if_pos rfl] at HL
    have HC := HCX.out (by simp)
    have HD := HCY.out rfl
    go_enter Tryd.func63, Tryd.ntmps63
    go_wp2_with fail
    simp only [HN.out.1, HN.out.2]
    have row := HRow.out _ O1.out.stay
    have r0 := cell_at row 5
    have r1 := cell_at row (5 + 1)
    have r2 := cell_at row (5 + 2)
    have r3 := cell_at row (5 + 3)
    have r4 := cell_at row (5 + 4)
    have r5 := cell_at row (5 + 5)
    have r6 := cell_at row (5 + 6)
    simp only [List.getElem?_toArray, List.getElem?_cons_zero, List.getElem?_cons_succ, Nat.reduceAdd] at r0 r1 r2 r3 r4 r5 r6
    clear row
    go_wp2_with fail
    refine (HC (t) w1 O1.out.st (by have := HL.out; simp at this ⊢; omega)).mono ?_
    rintro e w2 ⟨rfl, hO⟩
    have O2 := Lib.hid (O1.out.trans hO)
    clear hO r0 r1 r2 r3 r4 r5 r6
    go_wp2_with fail
    refine (put_any' Bb wB (t ++ exText x) [32, 61, 32] _ rfl w2 O2.out.st (by have := HL.out; simp at this ⊢; omega)).mono ?_
    rintro e w3 ⟨rfl, hO⟩
    have O3 := Lib.hid (O2.out.trans hO)
    clear hO
    have row := HRow.out _ O3.out.stay
    have r0 := cell_at row 12
    have r1 := cell_at row (12 + 1)
    have r2 := cell_at row (12 + 2)
    have r3 := cell_at row (12 + 3)
    have r4 := cell_at row (12 + 4)
    have r5 := cell_at row (12 + 5)
    have r6 := cell_at row (12 + 6)
    simp only [List.getElem?_toArray, List.getElem?_cons_zero, List.getElem?_cons_succ, Nat.reduceAdd] at r0 r1 r2 r3 r4 r5 r6
    clear row
    go_wp2_with fail
    refine (HD (t ++ exText x ++ [32, 61, 32]) w3 O3.out.st (by have := HL.out; simp at this ⊢; omega)).mono ?_
    rintro e w4 ⟨rfl, hO⟩
    have O4 := Lib.hid (O3.out.trans hO)
    clear hO r0 r1 r2 r3 r4 r5 r6
    go_wp2_with fail
    refine (put_any' Bb wB (t ++ exText x ++ [32, 61, 32] ++ exText y) [59] _ rfl w4 O4.out.st (by have := HL.out; simp at this ⊢; omega)).mono ?_
    rintro e wz ⟨rfl, hO⟩
    have OZ := Lib.hid (O4.out.trans hO)
    clear hO
    have OF : Hid (TxOut Bb wB T W wz) := Lib.hid ((TxOut.mk OZ.out.st (HW0.out.trans OZ.out.stay)).eq (by rw [← HT.out]; simp))
    go_wp2_with fail
    go_end0
    exact ⟨rfl, OF.out⟩
  · -- if
    rw [wSt, if_pos rfl] at HT
    rw [stText, if_neg (by decide), if_neg (by decide), if_pos rfl] at HL
    have HC := HCX.out (by simp)
    cases hel : els.isEmpty with
    | true =>
      rw [hel, if_pos rfl] at HT HL
      have hl0 : els.length = 0 := by simpa using hel
      have d0 : decide (0 < els.length) = false := by simp [hl0]
      have d1 : decide ((0 : Int) < (els.length : Int)) = false := by simp [hl0]
      clear hel hl0
      go_enter Tryd.func63, Tryd.ntmps63
      go_wp2_with fail
      simp only [HN.out.1, HN.out.2]
      refine (put_any' Bb wB (t) [105, 102, 32] _ rfl w1 O1.out.st (by have := HL.out; simp at this ⊢; omega)).mono ?_
      rintro e w2 ⟨rfl, hO⟩
      have O2 := Lib.hid (O1.out.trans hO)
      clear hO
      have row := HRow.out _ O2.out.stay
      have r0 := cell_at row 5
      have r1 := cell_at row (5 + 1)
      have r2 := cell_at row (5 + 2)
      have r3 := cell_at row (5 + 3)
      have r4 := cell_at row (5 + 4)
      have r5 := cell_at row (5 + 5)
      have r6 := cell_at row (5 + 6)
      simp only [List.getElem?_toArray, List.getElem?_cons_zero, List.getElem?_cons_succ, Nat.reduceAdd] at r0 r1 r2 r3 r4 r5 r6
      clear row
      go_wp2_with fail
      refine (HC (t ++ [105, 102, 32]) w2 O2.out.st (by have := HL.out; simp at this ⊢; omega)).mono ?_
      rintro e w3 ⟨rfl, hO⟩
      have O3 := Lib.hid (O2.out.trans hO)
      clear hO r0 r1 r2 r3 r4 r5 r6
      go_wp2_with fail
      refine (put_any' Bb wB (t ++ [105, 102, 32] ++ exText x) [32] _ rfl w3 O3.out.st (by have := HL.out; simp at this ⊢; omega)).mono ?_
      rintro e w4 ⟨rfl, hO⟩
      have O4 := Lib.hid (O3.out.trans hO)
      clear hO
      have row := HRow.out _ O4.out.stay
      have r0 := cell_at row 19
      simp only [List.getElem?_toArray, List.getElem?_cons_zero, List.getElem?_cons_succ] at r0
      clear row
      go_wp2_with fail
      refine (sblock_of Bb wB bd body ind hB (t ++ [105, 102, 32] ++ exText x ++ [32]) w4 O4.out.st (by have := HIn.out; omega) (by have := HL.out; simp at this ⊢; omega)).mono ?_
      rintro e w5 ⟨rfl, hO⟩
      have O5 := Lib.hid (O4.out.trans hO)
      clear hO r0
      have row := HRow.out _ O5.out.stay
      have r0 := cell_at row 20
      simp only [List.getElem?_toArray, List.getElem?_cons_zero, List.getElem?_cons_succ] at r0
      clear row
      have OF : Hid (TxOut Bb wB T W w5) := Lib.hid ((TxOut.mk O5.out.st (HW0.out.trans O5.out.stay)).eq (by rw [← HT.out]; simp))
      go_wp2_with fail
      refine bodyPost_ret (results_none rfl _ _ _) rfl ?_
      exact ⟨rfl, OF.out⟩
    | false =>
      rw [hel, if_neg (by decide)] at HT HL
      have hl0 : 0 < els.length := by cases els with | nil => simp at hel | cons u v => simp
      have d0 : decide (0 < els.length) = true := by simp [hl0]
      have d1 : decide ((0 : Int) < (els.length : Int)) = true := by simp; omega
      clear hel hl0
      have hws := Lib.hid (wSts_is (t ++ [105, 102, 32] ++ exText x ++ [32] ++ [123, 10]) body (ind ++ [32, 32])).2
      go_enter Tryd.func63, Tryd.ntmps63
      go_wp2_with fail
      simp only [HN.out.1, HN.out.2]
      refine (put_any' Bb wB (t) [105, 102, 32] _ rfl w1 O1.out.st (by have := HL.out; simp at this ⊢; omega)).mono ?_
      rintro e w2 ⟨rfl, hO⟩
      have O2 := Lib.hid (O1.out.trans hO)
      clear hO
      have row := HRow.out _ O2.out.stay
      have r0 := cell_at row 5
      have r1 := cell_at row (5 + 1)
      have r2 := cell_at row (5 + 2)
      have r3 := cell_at row (5 + 3)
      have r4 := cell_at row (5 + 4)
      have r5 := cell_at row (5 + 5)
      have r6 := cell_at row (5 + 6)
      simp only [List.getElem?_toArray, List.getElem?_cons_zero, List.getElem?_cons_succ, Nat.reduceAdd] at r0 r1 r2 r3 r4 r5 r6
      clear row
      go_wp2_with fail
      refine (HC (t ++ [105, 102, 32]) w2 O2.out.st (by have := HL.out; simp at this ⊢; omega)).mono ?_
      rintro e w3 ⟨rfl, hO⟩
      have O3 := Lib.hid (O2.out.trans hO)
      clear hO r0 r1 r2 r3 r4 r5 r6
      go_wp2_with fail
      refine (put_any' Bb wB (t ++ [105, 102, 32] ++ exText x) [32] _ rfl w3 O3.out.st (by have := HL.out; simp at this ⊢; omega)).mono ?_
      rintro e w4 ⟨rfl, hO⟩
      have O4 := Lib.hid (O3.out.trans hO)
      clear hO
      have row := HRow.out _ O4.out.stay
      have r0 := cell_at row 19
      simp only [List.getElem?_toArray, List.getElem?_cons_zero, List.getElem?_cons_succ] at r0
      clear row
      go_wp2_with fail
      refine (sblock_of Bb wB bd body ind hB (t ++ [105, 102, 32] ++ exText x ++ [32]) w4 O4.out.st (by have := HIn.out; omega) (by have := HL.out; simp at this ⊢; omega)).mono ?_
      rintro e w5 ⟨rfl, hO⟩
      have O5 := Lib.hid (O4.out.trans hO)
      clear hO r0
      have HT2 : Hid (wSts (wSts (t ++ [105, 102, 32] ++ exText x ++ [32] ++ [123, 10]) body (ind ++ [32, 32]) ++ (ind ++ [125]) ++ [32, 101, 108, 115, 101, 32] ++ [123, 10]) els (ind ++ [32, 32]) ++ (ind ++ [125]) = T) := Lib.hid (by rw [← HT.out]; simp)
      generalize wSts (t ++ [105, 102, 32] ++ exText x ++ [32] ++ [123, 10]) body (ind ++ [32, 32]) = ws at *
      have HL2 : Hid (ws.length + (ind.length + 1) + 6 + ((stTexts els (ind ++ [32, 32])).length + ind.length + 3) ≤ 140737488355328) := Lib.hid (by have h1 := HL.out; have h2 := hws.out; simp at h1 h2 ⊢; omega)
      clear HT HL hws
      have HT := HT2
      have HL := HL2
      clear HT2 HL2
      have row := HRow.out _ O5.out.stay
      have r0 := cell_at row 20
      simp only [List.getElem?_toArray, List.getElem?_cons_zero, List.getElem?_cons_succ] at r0
      clear row
      go_wp2_with fail
      clear r0
      refine (put_any' Bb wB (ws ++ (ind ++ [125])) [32, 101, 108, 115, 101, 32] _ rfl w5 O5.out.st (by have := HL.out; simp at this ⊢; omega)).mono ?_
      rintro e w6 ⟨rfl, hO⟩
      have O6 := Lib.hid (O5.out.trans hO)
      clear hO
      have row := HRow.out _ O6.out.stay
      have r0 := cell_at row 20
      simp only [List.getElem?_toArray, List.getElem?_cons_zero, List.getElem?_cons_succ] at r0
      clear row
      go_wp2_with fail
      refine (sblock_of Bb wB ed els ind hE (ws ++ (ind ++ [125]) ++ [32, 101, 108, 115, 101, 32]) w6 O6.out.st (by have := HIn.out; omega) (by have := HL.out; simp at this ⊢; omega)).mono ?_
      rintro e w7 ⟨rfl, hO⟩
      have O7 := Lib.hid (O6.out.trans hO)
      clear hO r0
      have OF : Hid (TxOut Bb wB T W w7) := Lib.hid ((TxOut.mk O7.out.st (HW0.out.trans O7.out.stay)).eq (by rw [← HT.out]; skip))
      go_wp2_with fail
      refine bodyPost_ret (results_none rfl _ _ _) rfl ?_
      exact ⟨rfl, OF.out⟩
  · -- while
    rw [wSt, if_neg (by decide), if_pos rfl] at HT
    rw [stText, if_neg (by decide), if_neg (by decide), if_neg (by decide), if_pos rfl] at HL
    have HC := HCX.out (by simp)
    go_enter Tryd.func63, Tryd.ntmps63
    go_wp2_with fail
    simp only [HN.out.1, HN.out.2]
    refine (put_any' Bb wB (t) [119, 104, 105, 108, 101, 32] _ rfl w1 O1.out.st (by have := HL.out; simp at this ⊢; omega)).mono ?_
    rintro e w2 ⟨rfl, hO⟩
    have O2 := Lib.hid (O1.out.trans hO)
    clear hO
    have row := HRow.out _ O2.out.stay
    have r0 := cell_at row 5
    have r1 := cell_at row (5 + 1)
    have r2 := cell_at row (5 + 2)
    have r3 := cell_at row (5 + 3)
    have r4 := cell_at row (5 + 4)
    have r5 := cell_at row (5 + 5)
    have r6 := cell_at row (5 + 6)
    simp only [List.getElem?_toArray, List.getElem?_cons_zero, List.getElem?_cons_succ, Nat.reduceAdd] at r0 r1 r2 r3 r4 r5 r6
    clear row
    go_wp2_with fail
    refine (HC (t ++ [119, 104, 105, 108, 101, 32]) w2 O2.out.st (by have := HL.out; simp at this ⊢; omega)).mono ?_
    rintro e w3 ⟨rfl, hO⟩
    have O3 := Lib.hid (O2.out.trans hO)
    clear hO r0 r1 r2 r3 r4 r5 r6
    go_wp2_with fail
    refine (put_any' Bb wB (t ++ [119, 104, 105, 108, 101, 32] ++ exText x) [32] _ rfl w3 O3.out.st (by have := HL.out; simp at this ⊢; omega)).mono ?_
    rintro e w4 ⟨rfl, hO⟩
    have O4 := Lib.hid (O3.out.trans hO)
    clear hO
    have row := HRow.out _ O4.out.stay
    have r0 := cell_at row 19
    simp only [List.getElem?_toArray, List.getElem?_cons_zero, List.getElem?_cons_succ] at r0
    clear row
    go_wp2_with fail
    refine (sblock_of Bb wB bd body ind hB (t ++ [119, 104, 105, 108, 101, 32] ++ exText x ++ [32]) w4 O4.out.st (by have := HIn.out; omega) (by have := HL.out; simp at this ⊢; omega)).mono ?_
    rintro e w5 ⟨rfl, hO⟩
    have O5 := Lib.hid (O4.out.trans hO)
    clear hO r0
    have OF : Hid (TxOut Bb wB T W w5) := Lib.hid ((TxOut.mk O5.out.st (HW0.out.trans O5.out.stay)).eq (by rw [← HT.out]; simp))
    go_wp2_with fail
    refine bodyPost_ret (results_none rfl _ _ _) rfl ?_
    exact ⟨rfl, OF.out⟩
  · -- atomic
    rw [wSt, if_neg (by decide), if_neg (by decide), if_pos rfl] at HT
    rw [stText, if_neg (by decide), if_neg (by decide), if_neg (by decide), if_neg (by decide), if_pos rfl] at HL
    go_enter Tryd.func63, Tryd.ntmps63
    go_wp2_with fail
    simp only [HN.out.1, HN.out.2]
    refine (put_any' Bb wB (t) [97, 116, 111, 109, 105, 99, 32] _ rfl w1 O1.out.st (by have := HL.out; simp at this ⊢; omega)).mono ?_
    rintro e w2 ⟨rfl, hO⟩
    have O2 := Lib.hid (O1.out.trans hO)
    clear hO
    have row := HRow.out _ O2.out.stay
    have r0 := cell_at row 19
    simp only [List.getElem?_toArray, List.getElem?_cons_zero, List.getElem?_cons_succ] at r0
    clear row
    go_wp2_with fail
    refine (sblock_of Bb wB bd body ind hB (t ++ [97, 116, 111, 109, 105, 99, 32]) w2 O2.out.st (by have := HIn.out; omega) (by have := HL.out; simp at this ⊢; omega)).mono ?_
    rintro e w5 ⟨rfl, hO⟩
    have O5 := Lib.hid (O2.out.trans hO)
    clear hO r0
    have OF : Hid (TxOut Bb wB T W w5) := Lib.hid ((TxOut.mk O5.out.st (HW0.out.trans O5.out.stay)).eq (by rw [← HT.out]; simp))
    go_wp2_with fail
    refine bodyPost_ret (results_none rfl _ _ _) rfl ?_
    exact ⟨rfl, OF.out⟩
  · -- print
    rw [wSt, if_neg (by decide), if_neg (by decide), if_neg (by decide), stText, if_neg (by decide), if_neg (by decide), if_neg (by decide), if_neg (by decide), if_neg (by decide), if_pos rfl] at HT
    rw [stText, if_neg (by decide), if_neg (by decide), if_neg (by decide), if_neg (by decide), if_neg (by decide), if_pos rfl] at HL
    have HC := HCX.out (by simp)
    go_enter Tryd.func63, Tryd.ntmps63
    go_wp2_with fail
    simp only [HN.out.1, HN.out.2]
    refine (put_any' Bb wB (t) [112, 114, 105, 110, 116, 32] _ rfl w1 O1.out.st (by have := HL.out; simp at this ⊢; omega)).mono ?_
    rintro e w2 ⟨rfl, hO⟩
    have O2 := Lib.hid (O1.out.trans hO)
    clear hO
    have row := HRow.out _ O2.out.stay
    have r0 := cell_at row 5
    have r1 := cell_at row (5 + 1)
    have r2 := cell_at row (5 + 2)
    have r3 := cell_at row (5 + 3)
    have r4 := cell_at row (5 + 4)
    have r5 := cell_at row (5 + 5)
    have r6 := cell_at row (5 + 6)
    simp only [List.getElem?_toArray, List.getElem?_cons_zero, List.getElem?_cons_succ, Nat.reduceAdd] at r0 r1 r2 r3 r4 r5 r6
    clear row
    go_wp2_with fail
    refine (HC (t ++ [112, 114, 105, 110, 116, 32]) w2 O2.out.st (by have := HL.out; simp at this ⊢; omega)).mono ?_
    rintro e w3 ⟨rfl, hO⟩
    have O3 := Lib.hid (O2.out.trans hO)
    clear hO r0 r1 r2 r3 r4 r5 r6
    go_wp2_with fail
    refine (put_any' Bb wB (t ++ [112, 114, 105, 110, 116, 32] ++ exText x) [59] _ rfl w3 O3.out.st (by have := HL.out; simp at this ⊢; omega)).mono ?_
    rintro e wz ⟨rfl, hO⟩
    have OZ := Lib.hid (O3.out.trans hO)
    clear hO
    have OF : Hid (TxOut Bb wB T W wz) := Lib.hid ((TxOut.mk OZ.out.st (HW0.out.trans OZ.out.stay)).eq (by rw [← HT.out]; simp))
    go_wp2_with fail
    go_end0
    exact ⟨rfl, OF.out⟩
  · -- return
    rw [wSt, if_neg (by decide), if_neg (by decide), if_neg (by decide), stText, if_neg (by decide), if_neg (by decide), if_neg (by decide), if_neg (by decide), if_neg (by decide), if_neg (by decide), if_pos rfl] at HT
    rw [stText, if_neg (by decide), if_neg (by decide), if_neg (by decide), if_neg (by decide), if_neg (by decide), if_neg (by decide), if_pos rfl] at HL
    go_enter Tryd.func63, Tryd.ntmps63
    go_wp2_with fail
    simp only [HN.out.1, HN.out.2]
    refine (put_any' Bb wB (t) [114, 101, 116, 117, 114, 110] _ rfl w1 O1.out.st (by have := HL.out; simp at this ⊢; omega)).mono ?_
    rintro e w2 ⟨rfl, hO⟩
    have O2 := Lib.hid (O1.out.trans hO)
    clear hO
    cases hne : noEx x with
    | true =>
      rw [hne, if_pos rfl] at HT HL
      have row := HRow.out _ O2.out.stay
      have r0 := cell_at row 5
      have r1 := cell_at row (5 + 1)
      have r2 := cell_at row (5 + 2)
      have r3 := cell_at row (5 + 3)
      have r4 := cell_at row (5 + 4)
      have r5 := cell_at row (5 + 5)
      have r6 := cell_at row (5 + 6)
      simp only [List.getElem?_toArray, List.getElem?_cons_zero, List.getElem?_cons_succ, Nat.reduceAdd] at r0 r1 r2 r3 r4 r5 r6
      clear row
      have CN := none_any x w2
      rw [hne] at CN
      go_wp2_with fail
      refine CN.mono ?_
      rintro e w4 ⟨rfl, hbn⟩
      have O4 := Lib.hid (O2.out.below hbn)
      clear hbn r0 r1 r2 r3 r4 r5 r6 CN
      go_wp2_with fail
      refine (put_any' Bb wB (t ++ [114, 101, 116, 117, 114, 110]) [59] _ rfl w4 O4.out.st (by have := HL.out; simp at this ⊢; omega)).mono ?_
      rintro e wz ⟨rfl, hO⟩
      have OZ := Lib.hid (O4.out.trans hO)
      clear hO
      have OF : Hid (TxOut Bb wB T W wz) := Lib.hid ((TxOut.mk OZ.out.st (HW0.out.trans OZ.out.stay)).eq (by rw [← HT.out]; simp))
      go_wp2_with fail
      go_end0
      exact ⟨rfl, OF.out⟩
    | false =>
      rw [hne, if_neg (by decide)] at HT HL
      have HC := HCX.out (by rw [hne]; simp)
      have row := HRow.out _ O2.out.stay
      have r0 := cell_at row 5
      have r1 := cell_at row (5 + 1)
      have r2 := cell_at row (5 + 2)
      have r3 := cell_at row (5 + 3)
      have r4 := cell_at row (5 + 4)
      have r5 := cell_at row (5 + 5)
      have r6 := cell_at row (5 + 6)
      simp only [List.getElem?_toArray, List.getElem?_cons_zero, List.getElem?_cons_succ, Nat.reduceAdd] at r0 r1 r2 r3 r4 r5 r6
      clear row
      have CN := none_any x w2
      rw [hne] at CN
      go_wp2_with fail
      refine CN.mono ?_
      rintro e w4 ⟨rfl, hbn⟩
      have O4 := Lib.hid (O2.out.below hbn)
      clear hbn r0 r1 r2 r3 r4 r5 r6 CN
      go_wp2_with fail
      refine (put_any' Bb wB (t ++ [114, 101, 116, 117, 114, 110]) [32] _ rfl w4 O4.out.st (by have := HL.out; simp at this ⊢; omega)).mono ?_
      rintro e w5 ⟨rfl, hO⟩
      have O5 := Lib.hid (O4.out.trans hO)
      clear hO
      have row := HRow.out _ O5.out.stay
      have r0 := cell_at row 5
      have r1 := cell_at row (5 + 1)
      have r2 := cell_at row (5 + 2)
      have r3 := cell_at row (5 + 3)
      have r4 := cell_at row (5 + 4)
      have r5 := cell_at row (5 + 5)
      have r6 := cell_at row (5 + 6)
      simp only [List.getElem?_toArray, List.getElem?_cons_zero, List.getElem?_cons_succ, Nat.reduceAdd] at r0 r1 r2 r3 r4 r5 r6
      clear row
      go_wp2_with fail
      refine (HC (t ++ [114, 101, 116, 117, 114, 110] ++ [32]) w5 O5.out.st (by have := HL.out; simp at this ⊢; omega)).mono ?_
      rintro e w6 ⟨rfl, hO⟩
      have O6 := Lib.hid (O5.out.trans hO)
      clear hO r0 r1 r2 r3 r4 r5 r6
      go_wp2_with fail
      refine (put_any' Bb wB (t ++ [114, 101, 116, 117, 114, 110] ++ [32] ++ exText x) [59] _ rfl w6 O6.out.st (by have := HL.out; simp at this ⊢; omega)).mono ?_
      rintro e wz ⟨rfl, hO⟩
      have OZ := Lib.hid (O6.out.trans hO)
      clear hO
      have OF : Hid (TxOut Bb wB T W wz) := Lib.hid ((TxOut.mk OZ.out.st (HW0.out.trans OZ.out.stay)).eq (by rw [← HT.out]; simp))
      go_wp2_with fail
      go_end0
      exact ⟨rfl, OF.out⟩
  · -- a call
    rw [wSt, if_neg (by decide), if_neg (by decide), if_neg (by decide), stText, if_neg (by decide), if_neg (by decide), if_neg (by decide), if_neg (by decide), if_neg (by decide), if_neg (by decide), if_neg (by decide)] at HT
    rw [stText, if_neg (by decide), if_neg (by decide), if_neg (by decide), if_neg (by decide), if_neg (by decide), if_neg (by decide), if_neg (by decide)] at HL
    have HC := HCX.out (by simp)
    go_enter Tryd.func63, Tryd.ntmps63
    go_wp2_with fail
    simp only [HN.out.1, HN.out.2]
    have row := HRow.out _ O1.out.stay
    have r0 := cell_at row 5
    have r1 := cell_at row (5 + 1)
    have r2 := cell_at row (5 + 2)
    have r3 := cell_at row (5 + 3)
    have r4 := cell_at row (5 + 4)
    have r5 := cell_at row (5 + 5)
    have r6 := cell_at row (5 + 6)
    simp only [List.getElem?_toArray, List.getElem?_cons_zero, List.getElem?_cons_succ, Nat.reduceAdd] at r0 r1 r2 r3 r4 r5 r6
    clear row
    go_wp2_with fail
    refine (HC (t) w1 O1.out.st (by have := HL.out; simp at this ⊢; omega)).mono ?_
    rintro e w2 ⟨rfl, hO⟩
    have O2 := Lib.hid (O1.out.trans hO)
    clear hO r0 r1 r2 r3 r4 r5 r6
    go_wp2_with fail
    refine (put_any' Bb wB (t ++ exText x) [59] _ rfl w2 O2.out.st (by have := HL.out; simp at this ⊢; omega)).mono ?_
    rintro e wz ⟨rfl, hO⟩
    have OZ := Lib.hid (O2.out.trans hO)
    clear hO
    have OF : Hid (TxOut Bb wB T W wz) := Lib.hid ((TxOut.mk OZ.out.st (HW0.out.trans OZ.out.stay)).eq (by rw [← HT.out]; simp))
    go_wp2_with fail
    go_end0
    exact ⟨rfl, OF.out⟩
end Go.Proofs.YtblnmlbkgdncnaaDoor
