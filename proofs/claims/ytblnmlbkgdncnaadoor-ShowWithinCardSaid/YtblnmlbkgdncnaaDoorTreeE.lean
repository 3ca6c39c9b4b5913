/-
  trees: a statement's own form, walked.
-/
import Derived.Test.YtblnmlbkgdncnaaDoorTreeD
set_option linter.unusedVariables false
set_option linter.unusedSimpArgs false
namespace Go.Proofs.YtblnmlbkgdncnaaDoor
open Go.RowKit

set_option hygiene false in

/-- a statement's box -/
abbrev stObj (k : Int) (nm : List UInt8) (t : Ty) (x y : Ex) (A : Option Addr) (l c : Nat) (B : Option Addr) (m e : Nat) : Obj :=
  .cells #[.int .u8 k, .string ⟨nm.toArray⟩, .int .u8 t.k, .string ⟨t.nm.toArray⟩, .int .i64 t.n, .int .u8 x.k, .int .i64 x.n, .string ⟨x.nm.toArray⟩, .int .u8 x.t.k, .string ⟨x.t.nm.toArray⟩, .int .i64 x.t.n, .slice x.d.a x.args.length x.d.c,
    .int .u8 y.k, .int .i64 y.n, .string ⟨y.nm.toArray⟩, .int .u8 y.t.k, .string ⟨y.t.nm.toArray⟩, .int .i64 y.t.n, .slice y.d.a y.args.length y.d.c, .slice A l c, .slice B m e] 61 (0, 0)

theorem nameB_nil : nameB [] = false := by decide
theorem stLen0 (l : List St) : ((l.length : Int) == 0) = l.isEmpty := by cases l <;> simp; omega

set_option maxHeartbeats 8000000 in
set_option maxRecDepth 100000 in
theorem form_any (s : St) (hl : lenOk s.nm.length) (w : World) (G : LGlobs w) :
    Calls Tryd.prog 72 #[s.val] w fun e w' => e = .returned (.bool (stForm s)) ∧ Below w.heap.size w w' := by
  obtain ⟨k, nm, t, x, y, bd, body, ed, els⟩ := s
  have CN := Lib.hid (fun W GW => lname_any nm hl W GW)
  have CX := Lib.hid (fun W => none_any x W)
  have CY := Lib.hid (fun W => none_any y W)
  have HG := Lib.hid (fun o => (G.below ((Below.refl w.heap.size w).alloc (Nat.le_refl _) o)))
  have HB0 := Lib.hid (fun o => (Below.refl w.heap.size w).alloc (Nat.le_refl _) o)
  have HRow : Hid (∀ o W, Below (w.alloc o).heap.size (w.alloc o) W → W.heap[w.heap.size]? = some o) :=
    Lib.hid fun o W hb => (hb.block _ (Array.getElem?_eq_some_iff.1 (heap_alloc_new w o)).1).trans (heap_alloc_new w o)
  have HE : Hid (∀ b, stForm (.mk k nm t x y bd body ed els) = b → Ending.returned (.bool b) = .returned (.bool (stForm (.mk k nm t x y bd body ed els)))) := Lib.hid fun b h => by rw [h]
  clear hl G
  dsimp only [St.val, St.k, St.nm, St.t, St.x, St.y, St.bd, St.body, St.ed, St.els]
  by_cases h1 : k = 1
  · subst h1
    cases hb : nameB nm with
    | true =>
      rw [hb] at CN
      have HN := Lib.hid hb
      clear hb
      go_enter Tryd.func72, Tryd.ntmps72
      go_wp2_with (first | (go_at_call 31; refine (CN.out _ (HG.out _)).mono ?_; rintro e w1 ⟨rfl, rfl⟩) | (go_at_call 30; with_reducible refine (CY.out _).mono ?_; rintro e w1 ⟨rfl, hb1⟩; have HB1 := Lib.hid ((HB0.out _).trans (hb1.mono (HB0.out _).size)); have r := HRow.out _ _ hb1; have HRow1 := Lib.hid r; (have r0 := cell_at r 0; have r1 := cell_at r 1; have r2 := cell_at r 2; have r3 := cell_at r 3; have r4 := cell_at r 4; have r5 := cell_at r 5; have r6 := cell_at r 6; have r7 := cell_at r 7; have r8 := cell_at r 8; have r9 := cell_at r 9; have r10 := cell_at r 10; have r11 := cell_at r 11; have r12 := cell_at r 12; have r13 := cell_at r 13; have r14 := cell_at r 14; have r15 := cell_at r 15; have r16 := cell_at r 16; have r17 := cell_at r 17; have r18 := cell_at r 18; have r19 := cell_at r 19; have r20 := cell_at r 20; clear r; simp only [List.getElem?_toArray, List.getElem?_cons_zero, List.getElem?_cons_succ] at r0 r1 r2 r3 r4 r5 r6 r7 r8 r9 r10 r11 r12 r13 r14 r15 r16 r17 r18 r19 r20); clear hb1) | (go_at_call 30; with_reducible refine (CX.out _).mono ?_; rintro e w2 ⟨rfl, hb2⟩; have HB2 := Lib.hid (HB1.out.trans (hb2.mono HB1.out.size)); have r := (hb2.block _ (Array.getElem?_eq_some_iff.1 HRow1.out).1).trans HRow1.out; (have r0 := cell_at r 0; have r1 := cell_at r 1; have r2 := cell_at r 2; have r3 := cell_at r 3; have r4 := cell_at r 4; have r5 := cell_at r 5; have r6 := cell_at r 6; have r7 := cell_at r 7; have r8 := cell_at r 8; have r9 := cell_at r 9; have r10 := cell_at r 10; have r11 := cell_at r 11; have r12 := cell_at r 12; have r13 := cell_at r 13; have r14 := cell_at r 14; have r15 := cell_at r 15; have r16 := cell_at r 16; have r17 := cell_at r 17; have r18 := cell_at r 18; have r19 := cell_at r 19; have r20 := cell_at r 20; clear r; simp only [List.getElem?_toArray, List.getElem?_cons_zero, List.getElem?_cons_succ] at r0 r1 r2 r3 r4 r5 r6 r7 r8 r9 r10 r11 r12 r13 r14 r15 r16 r17 r18 r19 r20); clear hb2))
      all_goals
        go_ret
        refine ⟨HE.out _ ?_, by first | exact HB2.out | exact HB1.out | exact HB0.out _⟩
        have hn := HN.out
        unfold stForm
        dsimp only [St.k, St.nm, St.t, St.x, St.y, St.body, St.els]
        clear CN CX CY
        simp_all [noTy, stLen0, nameB_nil]
    | false =>
      rw [hb] at CN
      have HN := Lib.hid hb
      clear hb
      go_enter Tryd.func72, Tryd.ntmps72
      go_wp2_with (first | (go_at_call 31; refine (CN.out _ (HG.out _)).mono ?_; rintro e w1 ⟨rfl, rfl⟩) | (go_at_call 30; with_reducible refine (CY.out _).mono ?_; rintro e w1 ⟨rfl, hb1⟩; have HB1 := Lib.hid ((HB0.out _).trans (hb1.mono (HB0.out _).size)); have r := HRow.out _ _ hb1; have HRow1 := Lib.hid r; (have r0 := cell_at r 0; have r1 := cell_at r 1; have r2 := cell_at r 2; have r3 := cell_at r 3; have r4 := cell_at r 4; have r5 := cell_at r 5; have r6 := cell_at r 6; have r7 := cell_at r 7; have r8 := cell_at r 8; have r9 := cell_at r 9; have r10 := cell_at r 10; have r11 := cell_at r 11; have r12 := cell_at r 12; have r13 := cell_at r 13; have r14 := cell_at r 14; have r15 := cell_at r 15; have r16 := cell_at r 16; have r17 := cell_at r 17; have r18 := cell_at r 18; have r19 := cell_at r 19; have r20 := cell_at r 20; clear r; simp only [List.getElem?_toArray, List.getElem?_cons_zero, List.getElem?_cons_succ] at r0 r1 r2 r3 r4 r5 r6 r7 r8 r9 r10 r11 r12 r13 r14 r15 r16 r17 r18 r19 r20); clear hb1) | (go_at_call 30; with_reducible refine (CX.out _).mono ?_; rintro e w2 ⟨rfl, hb2⟩; have HB2 := Lib.hid (HB1.out.trans (hb2.mono HB1.out.size)); have r := (hb2.block _ (Array.getElem?_eq_some_iff.1 HRow1.out).1).trans HRow1.out; (have r0 := cell_at r 0; have r1 := cell_at r 1; have r2 := cell_at r 2; have r3 := cell_at r 3; have r4 := cell_at r 4; have r5 := cell_at r 5; have r6 := cell_at r 6; have r7 := cell_at r 7; have r8 := cell_at r 8; have r9 := cell_at r 9; have r10 := cell_at r 10; have r11 := cell_at r 11; have r12 := cell_at r 12; have r13 := cell_at r 13; have r14 := cell_at r 14; have r15 := cell_at r 15; have r16 := cell_at r 16; have r17 := cell_at r 17; have r18 := cell_at r 18; have r19 := cell_at r 19; have r20 := cell_at r 20; clear r; simp only [List.getElem?_toArray, List.getElem?_cons_zero, List.getElem?_cons_succ] at r0 r1 r2 r3 r4 r5 r6 r7 r8 r9 r10 r11 r12 r13 r14 r15 r16 r17 r18 r19 r20); clear hb2))
      all_goals
        go_ret
        refine ⟨HE.out _ ?_, by first | exact HB2.out | exact HB1.out | exact HB0.out _⟩
        have hn := HN.out
        unfold stForm
        dsimp only [St.k, St.nm, St.t, St.x, St.y, St.body, St.els]
        clear CN CX CY
        simp_all [noTy, stLen0, nameB_nil]
  have HN := Lib.hid True.intro
  by_cases h2 : k = 2
  · clear h1
    subst h2
    go_enter Tryd.func72, Tryd.ntmps72
    go_wp2_with (first | (go_at_call 31; refine (CN.out _ (HG.out _)).mono ?_; rintro e w1 ⟨rfl, rfl⟩) | (go_at_call 30; with_reducible refine (CY.out _).mono ?_; rintro e w1 ⟨rfl, hb1⟩; have HB1 := Lib.hid ((HB0.out _).trans (hb1.mono (HB0.out _).size)); have r := HRow.out _ _ hb1; have HRow1 := Lib.hid r; (have r0 := cell_at r 0; have r1 := cell_at r 1; have r2 := cell_at r 2; have r3 := cell_at r 3; have r4 := cell_at r 4; have r5 := cell_at r 5; have r6 := cell_at r 6; have r7 := cell_at r 7; have r8 := cell_at r 8; have r9 := cell_at r 9; have r10 := cell_at r 10; have r11 := cell_at r 11; have r12 := cell_at r 12; have r13 := cell_at r 13; have r14 := cell_at r 14; have r15 := cell_at r 15; have r16 := cell_at r 16; have r17 := cell_at r 17; have r18 := cell_at r 18; have r19 := cell_at r 19; have r20 := cell_at r 20; clear r; simp only [List.getElem?_toArray, List.getElem?_cons_zero, List.getElem?_cons_succ] at r0 r1 r2 r3 r4 r5 r6 r7 r8 r9 r10 r11 r12 r13 r14 r15 r16 r17 r18 r19 r20); clear hb1) | (go_at_call 30; with_reducible refine (CX.out _).mono ?_; rintro e w2 ⟨rfl, hb2⟩; have HB2 := Lib.hid (HB1.out.trans (hb2.mono HB1.out.size)); have r := (hb2.block _ (Array.getElem?_eq_some_iff.1 HRow1.out).1).trans HRow1.out; (have r0 := cell_at r 0; have r1 := cell_at r 1; have r2 := cell_at r 2; have r3 := cell_at r 3; have r4 := cell_at r 4; have r5 := cell_at r 5; have r6 := cell_at r 6; have r7 := cell_at r 7; have r8 := cell_at r 8; have r9 := cell_at r 9; have r10 := cell_at r 10; have r11 := cell_at r 11; have r12 := cell_at r 12; have r13 := cell_at r 13; have r14 := cell_at r 14; have r15 := cell_at r 15; have r16 := cell_at r 16; have r17 := cell_at r 17; have r18 := cell_at r 18; have r19 := cell_at r 19; have r20 := cell_at r 20; clear r; simp only [List.getElem?_toArray, List.getElem?_cons_zero, List.getElem?_cons_succ] at r0 r1 r2 r3 r4 r5 r6 r7 r8 r9 r10 r11 r12 r13 r14 r15 r16 r17 r18 r19 r20); clear hb2))
    all_goals
      go_ret
      refine ⟨HE.out _ ?_, by first | exact HB2.out | exact HB1.out | exact HB0.out _⟩
      have hn := HN.out
      unfold stForm
      dsimp only [St.k, St.nm, St.t, St.x, St.y, St.body, St.els]
      clear CN CX CY
      simp_all [noTy, stLen0, nameB_nil]
  by_cases h3 : k = 3
  · clear h1 h2
    subst h3
    go_enter Tryd.func72, Tryd.ntmps72
    go_wp2_with (first | (go_at_call 31; refine (CN.out _ (HG.out _)).mono ?_; rintro e w1 ⟨rfl, rfl⟩) | (go_at_call 30; with_reducible refine (CY.out _).mono ?_; rintro e w1 ⟨rfl, hb1⟩; have HB1 := Lib.hid ((HB0.out _).trans (hb1.mono (HB0.out _).size)); have r := HRow.out _ _ hb1; have HRow1 := Lib.hid r; (have r0 := cell_at r 0; have r1 := cell_at r 1; have r2 := cell_at r 2; have r3 := cell_at r 3; have r4 := cell_at r 4; have r5 := cell_at r 5; have r6 := cell_at r 6; have r7 := cell_at r 7; have r8 := cell_at r 8; have r9 := cell_at r 9; have r10 := cell_at r 10; have r11 := cell_at r 11; have r12 := cell_at r 12; have r13 := cell_at r 13; have r14 := cell_at r 14; have r15 := cell_at r 15; have r16 := cell_at r 16; have r17 := cell_at r 17; have r18 := cell_at r 18; have r19 := cell_at r 19; have r20 := cell_at r 20; clear r; simp only [List.getElem?_toArray, List.getElem?_cons_zero, List.getElem?_cons_succ] at r0 r1 r2 r3 r4 r5 r6 r7 r8 r9 r10 r11 r12 r13 r14 r15 r16 r17 r18 r19 r20); clear hb1) | (go_at_call 30; with_reducible refine (CX.out _).mono ?_; rintro e w2 ⟨rfl, hb2⟩; have HB2 := Lib.hid (HB1.out.trans (hb2.mono HB1.out.size)); have r := (hb2.block _ (Array.getElem?_eq_some_iff.1 HRow1.out).1).trans HRow1.out; (have r0 := cell_at r 0; have r1 := cell_at r 1; have r2 := cell_at r 2; have r3 := cell_at r 3; have r4 := cell_at r 4; have r5 := cell_at r 5; have r6 := cell_at r 6; have r7 := cell_at r 7; have r8 := cell_at r 8; have r9 := cell_at r 9; have r10 := cell_at r 10; have r11 := cell_at r 11; have r12 := cell_at r 12; have r13 := cell_at r 13; have r14 := cell_at r 14; have r15 := cell_at r 15; have r16 := cell_at r 16; have r17 := cell_at r 17; have r18 := cell_at r 18; have r19 := cell_at r 19; have r20 := cell_at r 20; clear r; simp only [List.getElem?_toArray, List.getElem?_cons_zero, List.getElem?_cons_succ] at r0 r1 r2 r3 r4 r5 r6 r7 r8 r9 r10 r11 r12 r13 r14 r15 r16 r17 r18 r19 r20); clear hb2))
    all_goals
      go_ret
      refine ⟨HE.out _ ?_, by first | exact HB2.out | exact HB1.out | exact HB0.out _⟩
      have hn := HN.out
      unfold stForm
      dsimp only [St.k, St.nm, St.t, St.x, St.y, St.body, St.els]
      clear CN CX CY
      simp_all [noTy, stLen0, nameB_nil]
  by_cases h4 : k = 4
  · clear h1 h2 h3
    subst h4
    go_enter Tryd.func72, Tryd.ntmps72
    go_wp2_with (first | (go_at_call 31; refine (CN.out _ (HG.out _)).mono ?_; rintro e w1 ⟨rfl, rfl⟩) | (go_at_call 30; with_reducible refine (CY.out _).mono ?_; rintro e w1 ⟨rfl, hb1⟩; have HB1 := Lib.hid ((HB0.out _).trans (hb1.mono (HB0.out _).size)); have r := HRow.out _ _ hb1; have HRow1 := Lib.hid r; (have r0 := cell_at r 0; have r1 := cell_at r 1; have r2 := cell_at r 2; have r3 := cell_at r 3; have r4 := cell_at r 4; have r5 := cell_at r 5; have r6 := cell_at r 6; have r7 := cell_at r 7; have r8 := cell_at r 8; have r9 := cell_at r 9; have r10 := cell_at r 10; have r11 := cell_at r 11; have r12 := cell_at r 12; have r13 := cell_at r 13; have r14 := cell_at r 14; have r15 := cell_at r 15; have r16 := cell_at r 16; have r17 := cell_at r 17; have r18 := cell_at r 18; have r19 := cell_at r 19; have r20 := cell_at r 20; clear r; simp only [List.getElem?_toArray, List.getElem?_cons_zero, List.getElem?_cons_succ] at r0 r1 r2 r3 r4 r5 r6 r7 r8 r9 r10 r11 r12 r13 r14 r15 r16 r17 r18 r19 r20); clear hb1) | (go_at_call 30; with_reducible refine (CX.out _).mono ?_; rintro e w2 ⟨rfl, hb2⟩; have HB2 := Lib.hid (HB1.out.trans (hb2.mono HB1.out.size)); have r := (hb2.block _ (Array.getElem?_eq_some_iff.1 HRow1.out).1).trans HRow1.out; (have r0 := cell_at r 0; have r1 := cell_at r 1; have r2 := cell_at r 2; have r3 := cell_at r 3; have r4 := cell_at r 4; have r5 := cell_at r 5; have r6 := cell_at r 6; have r7 := cell_at r 7; have r8 := cell_at r 8; have r9 := cell_at r 9; have r10 := cell_at r 10; have r11 := cell_at r 11; have r12 := cell_at r 12; have r13 := cell_at r 13; have r14 := cell_at r 14; have r15 := cell_at r 15; have r16 := cell_at r 16; have r17 := cell_at r 17; have r18 := cell_at r 18; have r19 := cell_at r 19; have r20 := cell_at r 20; clear r; simp only [List.getElem?_toArray, List.getElem?_cons_zero, List.getElem?_cons_succ] at r0 r1 r2 r3 r4 r5 r6 r7 r8 r9 r10 r11 r12 r13 r14 r15 r16 r17 r18 r19 r20); clear hb2))
    all_goals
      go_ret
      refine ⟨HE.out _ ?_, by first | exact HB2.out | exact HB1.out | exact HB0.out _⟩
      have hn := HN.out
      unfold stForm
      dsimp only [St.k, St.nm, St.t, St.x, St.y, St.body, St.els]
      clear CN CX CY
      simp_all [noTy, stLen0, nameB_nil]
  by_cases h5 : k = 5
  · clear h1 h2 h3 h4
    subst h5
    go_enter Tryd.func72, Tryd.ntmps72
    go_wp2_with (first | (go_at_call 31; refine (CN.out _ (HG.out _)).mono ?_; rintro e w1 ⟨rfl, rfl⟩) | (go_at_call 30; with_reducible refine (CY.out _).mono ?_; rintro e w1 ⟨rfl, hb1⟩; have HB1 := Lib.hid ((HB0.out _).trans (hb1.mono (HB0.out _).size)); have r := HRow.out _ _ hb1; have HRow1 := Lib.hid r; (have r0 := cell_at r 0; have r1 := cell_at r 1; have r2 := cell_at r 2; have r3 := cell_at r 3; have r4 := cell_at r 4; have r5 := cell_at r 5; have r6 := cell_at r 6; have r7 := cell_at r 7; have r8 := cell_at r 8; have r9 := cell_at r 9; have r10 := cell_at r 10; have r11 := cell_at r 11; have r12 := cell_at r 12; have r13 := cell_at r 13; have r14 := cell_at r 14; have r15 := cell_at r 15; have r16 := cell_at r 16; have r17 := cell_at r 17; have r18 := cell_at r 18; have r19 := cell_at r 19; have r20 := cell_at r 20; clear r; simp only [List.getElem?_toArray, List.getElem?_cons_zero, List.getElem?_cons_succ] at r0 r1 r2 r3 r4 r5 r6 r7 r8 r9 r10 r11 r12 r13 r14 r15 r16 r17 r18 r19 r20); clear hb1) | (go_at_call 30; with_reducible refine (CX.out _).mono ?_; rintro e w2 ⟨rfl, hb2⟩; have HB2 := Lib.hid (HB1.out.trans (hb2.mono HB1.out.size)); have r := (hb2.block _ (Array.getElem?_eq_some_iff.1 HRow1.out).1).trans HRow1.out; (have r0 := cell_at r 0; have r1 := cell_at r 1; have r2 := cell_at r 2; have r3 := cell_at r 3; have r4 := cell_at r 4; have r5 := cell_at r 5; have r6 := cell_at r 6; have r7 := cell_at r 7; have r8 := cell_at r 8; have r9 := cell_at r 9; have r10 := cell_at r 10; have r11 := cell_at r 11; have r12 := cell_at r 12; have r13 := cell_at r 13; have r14 := cell_at r 14; have r15 := cell_at r 15; have r16 := cell_at r 16; have r17 := cell_at r 17; have r18 := cell_at r 18; have r19 := cell_at r 19; have r20 := cell_at r 20; clear r; simp only [List.getElem?_toArray, List.getElem?_cons_zero, List.getElem?_cons_succ] at r0 r1 r2 r3 r4 r5 r6 r7 r8 r9 r10 r11 r12 r13 r14 r15 r16 r17 r18 r19 r20); clear hb2))
    all_goals
      go_ret
      refine ⟨HE.out _ ?_, by first | exact HB2.out | exact HB1.out | exact HB0.out _⟩
      have hn := HN.out
      unfold stForm
      dsimp only [St.k, St.nm, St.t, St.x, St.y, St.body, St.els]
      clear CN CX CY
      simp_all [noTy, stLen0, nameB_nil]
  by_cases h6 : k = 6
  · clear h1 h2 h3 h4 h5
    subst h6
    go_enter Tryd.func72, Tryd.ntmps72
    go_wp2_with (first | (go_at_call 31; refine (CN.out _ (HG.out _)).mono ?_; rintro e w1 ⟨rfl, rfl⟩) | (go_at_call 30; with_reducible refine (CY.out _).mono ?_; rintro e w1 ⟨rfl, hb1⟩; have HB1 := Lib.hid ((HB0.out _).trans (hb1.mono (HB0.out _).size)); have r := HRow.out _ _ hb1; have HRow1 := Lib.hid r; (have r0 := cell_at r 0; have r1 := cell_at r 1; have r2 := cell_at r 2; have r3 := cell_at r 3; have r4 := cell_at r 4; have r5 := cell_at r 5; have r6 := cell_at r 6; have r7 := cell_at r 7; have r8 := cell_at r 8; have r9 := cell_at r 9; have r10 := cell_at r 10; have r11 := cell_at r 11; have r12 := cell_at r 12; have r13 := cell_at r 13; have r14 := cell_at r 14; have r15 := cell_at r 15; have r16 := cell_at r 16; have r17 := cell_at r 17; have r18 := cell_at r 18; have r19 := cell_at r 19; have r20 := cell_at r 20; clear r; simp only [List.getElem?_toArray, List.getElem?_cons_zero, List.getElem?_cons_succ] at r0 r1 r2 r3 r4 r5 r6 r7 r8 r9 r10 r11 r12 r13 r14 r15 r16 r17 r18 r19 r20); clear hb1) | (go_at_call 30; with_reducible refine (CX.out _).mono ?_; rintro e w2 ⟨rfl, hb2⟩; have HB2 := Lib.hid (HB1.out.trans (hb2.mono HB1.out.size)); have r := (hb2.block _ (Array.getElem?_eq_some_iff.1 HRow1.out).1).trans HRow1.out; (have r0 := cell_at r 0; have r1 := cell_at r 1; have r2 := cell_at r 2; have r3 := cell_at r 3; have r4 := cell_at r 4; have r5 := cell_at r 5; have r6 := cell_at r 6; have r7 := cell_at r 7; have r8 := cell_at r 8; have r9 := cell_at r 9; have r10 := cell_at r 10; have r11 := cell_at r 11; have r12 := cell_at r 12; have r13 := cell_at r 13; have r14 := cell_at r 14; have r15 := cell_at r 15; have r16 := cell_at r 16; have r17 := cell_at r 17; have r18 := cell_at r 18; have r19 := cell_at r 19; have r20 := cell_at r 20; clear r; simp only [List.getElem?_toArray, List.getElem?_cons_zero, List.getElem?_cons_succ] at r0 r1 r2 r3 r4 r5 r6 r7 r8 r9 r10 r11 r12 r13 r14 r15 r16 r17 r18 r19 r20); clear hb2))
    all_goals
      go_ret
      refine ⟨HE.out _ ?_, by first | exact HB2.out | exact HB1.out | exact HB0.out _⟩
      have hn := HN.out
      unfold stForm
      dsimp only [St.k, St.nm, St.t, St.x, St.y, St.body, St.els]
      clear CN CX CY
      simp_all [noTy, stLen0, nameB_nil]
  by_cases h7 : k = 7
  · clear h1 h2 h3 h4 h5 h6
    subst h7
    go_enter Tryd.func72, Tryd.ntmps72
    go_wp2_with (first | (go_at_call 31; refine (CN.out _ (HG.out _)).mono ?_; rintro e w1 ⟨rfl, rfl⟩) | (go_at_call 30; with_reducible refine (CY.out _).mono ?_; rintro e w1 ⟨rfl, hb1⟩; have HB1 := Lib.hid ((HB0.out _).trans (hb1.mono (HB0.out _).size)); have r := HRow.out _ _ hb1; have HRow1 := Lib.hid r; (have r0 := cell_at r 0; have r1 := cell_at r 1; have r2 := cell_at r 2; have r3 := cell_at r 3; have r4 := cell_at r 4; have r5 := cell_at r 5; have r6 := cell_at r 6; have r7 := cell_at r 7; have r8 := cell_at r 8; have r9 := cell_at r 9; have r10 := cell_at r 10; have r11 := cell_at r 11; have r12 := cell_at r 12; have r13 := cell_at r 13; have r14 := cell_at r 14; have r15 := cell_at r 15; have r16 := cell_at r 16; have r17 := cell_at r 17; have r18 := cell_at r 18; have r19 := cell_at r 19; have r20 := cell_at r 20; clear r; simp only [List.getElem?_toArray, List.getElem?_cons_zero, List.getElem?_cons_succ] at r0 r1 r2 r3 r4 r5 r6 r7 r8 r9 r10 r11 r12 r13 r14 r15 r16 r17 r18 r19 r20); clear hb1) | (go_at_call 30; with_reducible refine (CX.out _).mono ?_; rintro e w2 ⟨rfl, hb2⟩; have HB2 := Lib.hid (HB1.out.trans (hb2.mono HB1.out.size)); have r := (hb2.block _ (Array.getElem?_eq_some_iff.1 HRow1.out).1).trans HRow1.out; (have r0 := cell_at r 0; have r1 := cell_at r 1; have r2 := cell_at r 2; have r3 := cell_at r 3; have r4 := cell_at r 4; have r5 := cell_at r 5; have r6 := cell_at r 6; have r7 := cell_at r 7; have r8 := cell_at r 8; have r9 := cell_at r 9; have r10 := cell_at r 10; have r11 := cell_at r 11; have r12 := cell_at r 12; have r13 := cell_at r 13; have r14 := cell_at r 14; have r15 := cell_at r 15; have r16 := cell_at r 16; have r17 := cell_at r 17; have r18 := cell_at r 18; have r19 := cell_at r 19; have r20 := cell_at r 20; clear r; simp only [List.getElem?_toArray, List.getElem?_cons_zero, List.getElem?_cons_succ] at r0 r1 r2 r3 r4 r5 r6 r7 r8 r9 r10 r11 r12 r13 r14 r15 r16 r17 r18 r19 r20); clear hb2))
    all_goals
      go_ret
      refine ⟨HE.out _ ?_, by first | exact HB2.out | exact HB1.out | exact HB0.out _⟩
      have hn := HN.out
      unfold stForm
      dsimp only [St.k, St.nm, St.t, St.x, St.y, St.body, St.els]
      clear CN CX CY
      simp_all [noTy, stLen0, nameB_nil]
  by_cases h8 : k = 8
  · clear h1 h2 h3 h4 h5 h6 h7
    subst h8
    go_enter Tryd.func72, Tryd.ntmps72
    go_wp2_with (first | (go_at_call 31; refine (CN.out _ (HG.out _)).mono ?_; rintro e w1 ⟨rfl, rfl⟩) | (go_at_call 30; with_reducible refine (CY.out _).mono ?_; rintro e w1 ⟨rfl, hb1⟩; have HB1 := Lib.hid ((HB0.out _).trans (hb1.mono (HB0.out _).size)); have r := HRow.out _ _ hb1; have HRow1 := Lib.hid r; (have r0 := cell_at r 0; have r1 := cell_at r 1; have r2 := cell_at r 2; have r3 := cell_at r 3; have r4 := cell_at r 4; have r5 := cell_at r 5; have r6 := cell_at r 6; have r7 := cell_at r 7; have r8 := cell_at r 8; have r9 := cell_at r 9; have r10 := cell_at r 10; have r11 := cell_at r 11; have r12 := cell_at r 12; have r13 := cell_at r 13; have r14 := cell_at r 14; have r15 := cell_at r 15; have r16 := cell_at r 16; have r17 := cell_at r 17; have r18 := cell_at r 18; have r19 := cell_at r 19; have r20 := cell_at r 20; clear r; simp only [List.getElem?_toArray, List.getElem?_cons_zero, List.getElem?_cons_succ] at r0 r1 r2 r3 r4 r5 r6 r7 r8 r9 r10 r11 r12 r13 r14 r15 r16 r17 r18 r19 r20); clear hb1) | (go_at_call 30; with_reducible refine (CX.out _).mono ?_; rintro e w2 ⟨rfl, hb2⟩; have HB2 := Lib.hid (HB1.out.trans (hb2.mono HB1.out.size)); have r := (hb2.block _ (Array.getElem?_eq_some_iff.1 HRow1.out).1).trans HRow1.out; (have r0 := cell_at r 0; have r1 := cell_at r 1; have r2 := cell_at r 2; have r3 := cell_at r 3; have r4 := cell_at r 4; have r5 := cell_at r 5; have r6 := cell_at r 6; have r7 := cell_at r 7; have r8 := cell_at r 8; have r9 := cell_at r 9; have r10 := cell_at r 10; have r11 := cell_at r 11; have r12 := cell_at r 12; have r13 := cell_at r 13; have r14 := cell_at r 14; have r15 := cell_at r 15; have r16 := cell_at r 16; have r17 := cell_at r 17; have r18 := cell_at r 18; have r19 := cell_at r 19; have r20 := cell_at r 20; clear r; simp only [List.getElem?_toArray, List.getElem?_cons_zero, List.getElem?_cons_succ] at r0 r1 r2 r3 r4 r5 r6 r7 r8 r9 r10 r11 r12 r13 r14 r15 r16 r17 r18 r19 r20); clear hb2))
    all_goals
      go_ret
      refine ⟨HE.out _ ?_, by first | exact HB2.out | exact HB1.out | exact HB0.out _⟩
      have hn := HN.out
      unfold stForm
      dsimp only [St.k, St.nm, St.t, St.x, St.y, St.body, St.els]
      clear CN CX CY
      simp_all [noTy, stLen0, nameB_nil]
  have HN := Lib.hid (show k < 1 ∨ 8 < k by omega)
  have b1 : (k == 1) = false := by simpa using h1
  have b2 : (k == 2) = false := by simpa using h2
  have b3 : (k == 3) = false := by simpa using h3
  have b4 : (k == 4) = false := by simpa using h4
  have b5 : (k == 5) = false := by simpa using h5
  have b6 : (k == 6) = false := by simpa using h6
  have b7 : (k == 7) = false := by simpa using h7
  have b8 : (k == 8) = false := by simpa using h8
  go_enter Tryd.func72, Tryd.ntmps72
  go_wp2_with (first | (go_at_call 31; refine (CN.out _ (HG.out _)).mono ?_; rintro e w1 ⟨rfl, rfl⟩) | (go_at_call 30; with_reducible refine (CY.out _).mono ?_; rintro e w1 ⟨rfl, hb1⟩; have HB1 := Lib.hid ((HB0.out _).trans (hb1.mono (HB0.out _).size)); have r := HRow.out _ _ hb1; have HRow1 := Lib.hid r; (have r0 := cell_at r 0; have r1 := cell_at r 1; have r2 := cell_at r 2; have r3 := cell_at r 3; have r4 := cell_at r 4; have r5 := cell_at r 5; have r6 := cell_at r 6; have r7 := cell_at r 7; have r8 := cell_at r 8; have r9 := cell_at r 9; have r10 := cell_at r 10; have r11 := cell_at r 11; have r12 := cell_at r 12; have r13 := cell_at r 13; have r14 := cell_at r 14; have r15 := cell_at r 15; have r16 := cell_at r 16; have r17 := cell_at r 17; have r18 := cell_at r 18; have r19 := cell_at r 19; have r20 := cell_at r 20; clear r; simp only [List.getElem?_toArray, List.getElem?_cons_zero, List.getElem?_cons_succ] at r0 r1 r2 r3 r4 r5 r6 r7 r8 r9 r10 r11 r12 r13 r14 r15 r16 r17 r18 r19 r20); clear hb1) | (go_at_call 30; with_reducible refine (CX.out _).mono ?_; rintro e w2 ⟨rfl, hb2⟩; have HB2 := Lib.hid (HB1.out.trans (hb2.mono HB1.out.size)); have r := (hb2.block _ (Array.getElem?_eq_some_iff.1 HRow1.out).1).trans HRow1.out; (have r0 := cell_at r 0; have r1 := cell_at r 1; have r2 := cell_at r 2; have r3 := cell_at r 3; have r4 := cell_at r 4; have r5 := cell_at r 5; have r6 := cell_at r 6; have r7 := cell_at r 7; have r8 := cell_at r 8; have r9 := cell_at r 9; have r10 := cell_at r 10; have r11 := cell_at r 11; have r12 := cell_at r 12; have r13 := cell_at r 13; have r14 := cell_at r 14; have r15 := cell_at r 15; have r16 := cell_at r 16; have r17 := cell_at r 17; have r18 := cell_at r 18; have r19 := cell_at r 19; have r20 := cell_at r 20; clear r; simp only [List.getElem?_toArray, List.getElem?_cons_zero, List.getElem?_cons_succ] at r0 r1 r2 r3 r4 r5 r6 r7 r8 r9 r10 r11 r12 r13 r14 r15 r16 r17 r18 r19 r20); clear hb2))
  all_goals
    go_ret
    refine ⟨HE.out _ ?_, by first | exact HB2.out | exact HB1.out | exact HB0.out _⟩
    have hn := HN.out
    unfold stForm
    dsimp only [St.k, St.nm, St.t, St.x, St.y, St.body, St.els]
    clear CN CX CY
    simp_all [noTy, stLen0, nameB_nil]
end Go.Proofs.YtblnmlbkgdncnaaDoor
