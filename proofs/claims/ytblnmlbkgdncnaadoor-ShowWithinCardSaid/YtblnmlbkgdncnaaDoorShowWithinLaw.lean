/-
  ShowWithin: the law, walked.
-/
import Derived.Test.YtblnmlbkgdncnaaDoorWithinA
import Derived.Test.YtblnmlbkgdncnaaDoorItemsC
import Derived.Test.YtblnmlbkgdncnaaDoorTreeOpen
import Derived.Test.YtblnmlbkgdncnaaDoorShowI
set_option linter.unusedVariables false
set_option linter.unusedSimpArgs false
namespace Go.Proofs.YtblnmlbkgdncnaaDoor
open Go.RowKit

set_option maxHeartbeats 400000 in
set_option maxRecDepth 100000 in
theorem beyond_any (b off c : Nat) (x : Int) (h1 : 0 ≤ x) (h2 : x ≤ 9223372036854775807) (w : World) (hc : w.cell? ⟨b, off, none⟩ = some (.int .i64 x)) :
    Calls Tryd.prog 8 #[.slice (some ⟨b, off, none⟩) 1 c] w fun e w' => e = .returned (.bool (decide (262144 < x))) ∧ w = w' := by
  by_cases hx : 262144 < x
  · rw [show decide (262144 < x) = true by simpa using hx]
    go_enter Tryd.func8, Tryd.ntmps8
    go_wp2
    refine wp_loop_rounds 1 ?_
    rw [rounds_succ]
    go_wp2
    go_ret
    exact ⟨rfl, rfl⟩
  · rw [show decide (262144 < x) = false by simpa using hx]
    go_enter Tryd.func8, Tryd.ntmps8
    go_wp2
    refine wp_loop_rounds 2 ?_
    rw [rounds_succ]
    go_wp2
    rw [rounds_succ]
    go_wp2
    go_ret
    exact ⟨rfl, rfl⟩

theorem showEx_len (x : Ex) : (showEx x).1.length ≤ 65536 := by
  unfold showEx
  split
  · simp
  · split
    · simp
    · dsimp only; omega
set_option maxHeartbeats 8000000 in
set_option maxRecDepth 100000 in
theorem showWithin_walk (x : Ex) (w : World) (hI : ExIn w w.heap.size x) (GL : LGlobs w) (GG : Globs w) :
    Calls Tryd.prog 4 #[.agg x.cells.toArray] w fun e w' => e = .returned (.bool true) ∧ Below w.heap.size w w' := by
  have HG : Hid (∀ W', Below w.heap.size w W' → LGlobs W' ∧ Globs W') := Lib.hid fun W' hb => ⟨GL.below hb, GG.below hb⟩
  have HI : Hid (∀ W', Below w.heap.size w W' → ExIn W' W'.heap.size x) := Lib.hid fun W' hb => hI.keep hb hb.size
  obtain ⟨X, hX⟩ : ∃ X, w.heap.size = X := ⟨_, rfl⟩
  obtain ⟨w1, hw1⟩ : ∃ w1, w.alloc (.cells #[.int .u8 x.k, .int .i64 x.n, .string ⟨x.nm.toArray⟩, .int .u8 x.t.k, .string ⟨x.t.nm.toArray⟩, .int .i64 x.t.n, .slice x.d.a x.args.length x.d.c] 33 (0, 0)) = w1 := ⟨_, rfl⟩
  have hb1 : Below w.heap.size w w1 := by rw [← hw1]; exact (Below.refl _ _).alloc (Nat.le_refl _) _
  have x1 : w1.heap[X]? = some (.cells #[.int .u8 x.k, .int .i64 x.n, .string ⟨x.nm.toArray⟩, .int .u8 x.t.k, .string ⟨x.t.nm.toArray⟩, .int .i64 x.t.n, .slice x.d.a x.args.length x.d.c] 33 (0, 0)) := by rw [← hw1, ← hX]; exact heap_alloc_new w _
  have HX1 : Hid (∀ W', Below w1.heap.size w1 W' → W'.heap[X]? = some (.cells #[.int .u8 x.k, .int .i64 x.n, .string ⟨x.nm.toArray⟩, .int .u8 x.t.k, .string ⟨x.t.nm.toArray⟩, .int .i64 x.t.n, .slice x.d.a x.args.length x.d.c] 33 (0, 0))) := Lib.hid fun W' hb => (hb.block X (lt_of_blk x1)).trans x1
  have HB1 := Lib.hid hb1
  have HBw : Hid (∀ W', Below w1.heap.size w1 W' → Below w.heap.size w W') := Lib.hid fun W' hb => hb1.trans (hb.mono hb1.size)
  have HN := Lib.hid (And.intro hX hw1)
  have hnum := hI.num
  have hrg := exSize_range x
  have C1 := Lib.hid (exsize_any x w1 (HI.out _ hb1))
  have HNum := Lib.hid hnum
  dsimp only [Ex.cells]
  by_cases hbig : 262144 < exSizeS x
  · have CB : Hid (∀ (b : Nat) (W : World), W.cell? ⟨b, 0, none⟩ = some (.int .i64 (exSizeS x)) → Calls Tryd.prog 8 #[.slice (some ⟨b, 0, none⟩) 1 1] W fun e w' => e = .returned (.bool true) ∧ W = w') := Lib.hid fun b W hc => by
      have h := beyond_any b 0 1 (exSizeS x) hrg.1 (by omega) W hc
      rwa [show decide (262144 < exSizeS x) = true by simpa using hbig] at h
    generalize exSizeS x = sz at *
    clear hX hw1 hb1 x1 hI GL GG hnum hrg hbig
    go_enter Tryd.func4, Tryd.ntmps4
    go_wp2_with fail
    simp only [HN.out.1, HN.out.2]
    refine C1.out.mono ?_
    rintro e w2 ⟨rfl, hb2⟩
    have HB2 := Lib.hid (HBw.out _ hb2)
    clear hb2 C1
    go_wp2_with fail
    refine (CB.out _ _ (cell_at (heap_alloc_new w2 _) 0)).mono ?_
    rintro e w3 ⟨rfl, rfl⟩
    have HZ : Hid (∀ o, Below w.heap.size w (w2.alloc o)) := Lib.hid fun o => HB2.out.alloc HB2.out.size o
    go_wp2_with fail
    go_ret
    exact ⟨rfl, HZ.out _⟩
  · have CB : Hid (∀ (b : Nat) (W : World), W.cell? ⟨b, 0, none⟩ = some (.int .i64 (exSizeS x)) → Calls Tryd.prog 8 #[.slice (some ⟨b, 0, none⟩) 1 1] W fun e w' => e = .returned (.bool false) ∧ W = w') := Lib.hid fun b W hc => by
      have h := beyond_any b 0 1 (exSizeS x) hrg.1 (by omega) W hc
      rwa [show decide (262144 < exSizeS x) = false by simpa using hbig] at h
    have hsm := exSize_small (x := x) (by omega)
    have hgv : exGiven x ≤ exCount x := by unfold exGiven; split <;> omega
    have HSm : Hid (∀ S1 S2, itemsOf (prB S1 S2 x) = 1 + exGiven x ∧ 1 + exGiven x ≤ 1000000) := Lib.hid fun S1 S2 => ⟨alone_items (prB_alone S1 S2 x), by omega⟩
    generalize exSizeS x = sz at *
    clear hX hw1 hb1 x1 hI GL GG hnum hrg hbig hsm hgv
    have q0 := cell_at (HX1.out _ (Below.refl _ _)) 0
    go_enter Tryd.func4, Tryd.ntmps4
    go_wp2_with fail
    simp only [HN.out.1, HN.out.2]
    refine C1.out.mono ?_
    rintro e w2 ⟨rfl, hb2⟩
    have HB2 := Lib.hid hb2
    clear hb2 C1 q0
    go_wp2_with fail
    refine (CB.out _ _ (cell_at (heap_alloc_new w2 _) 0)).mono ?_
    rintro e w3 ⟨rfl, hw3⟩
    have hb3 : Below w1.heap.size w1 w3 := by rw [← hw3]; exact HB2.out.alloc HB2.out.size _
    have HB3 := Lib.hid hb3
    have hwb3 := HBw.out _ hb3
    have C3 := Lib.hid (sshowex_any x w3 (HG.out _ hwb3).1 (HG.out _ hwb3).2 (HI.out _ hwb3))
    have hsl := showEx_len x
    obtain ⟨s1, e1, hsx⟩ : ∃ s e, showEx x = (s, e) := ⟨_, _, rfl⟩
    rw [hsx] at C3 hsl
    have HSx := Lib.hid hsx
    have HSl := Lib.hid hsl
    have row := (HX1.out _ hb3)
    have q0 := cell_at row 0
    have q1 := cell_at row 1
    have q2 := cell_at row 2
    have q3 := cell_at row 3
    have q4 := cell_at row 4
    have q5 := cell_at row 5
    have q6 := cell_at row 6
    simp only [List.getElem?_toArray, List.getElem?_cons_zero, List.getElem?_cons_succ] at q0 q1 q2 q3 q4 q5 q6
    clear row
    clear hb3 hwb3 hw3 hsx hsl CB HB2
    go_wp2_with fail
    refine C3.out.mono ?_
    rintro e w4 ⟨rfl, hb4⟩
    have HB4 := Lib.hid (HB3.out.trans (hb4.mono HB3.out.size))
    clear hb4 C3 q0 q1 q2 q3 q4 q5 q6
    have row := (HX1.out _ HB4.out)
    have q0 := cell_at row 0
    have q1 := cell_at row 1
    have q2 := cell_at row 2
    have q3 := cell_at row 3
    have q4 := cell_at row 4
    have q5 := cell_at row 5
    have q6 := cell_at row 6
    simp only [List.getElem?_toArray, List.getElem?_cons_zero, List.getElem?_cons_succ] at q0 q1 q2 q3 q4 q5 q6
    clear row
    go_wp2_with fail
    refine (salone_any x w4).mono ?_
    rintro e w5 ⟨S1, S2, rfl, hb5, y1, y2⟩
    have HB5 := Lib.hid (HB4.out.trans (hb5.mono HB4.out.size))
    have hwb5 := HBw.out _ HB5.out
    have C5 := Lib.hid (sprogram_any (prB S1 S2 x) w5 (HG.out _ hwb5).1 (HG.out _ hwb5).2 (prB_in y1 y2 (HI.out _ hwb5)) (fun _ => prB_ne S1 S2 x))
    have hW := within_plain (prB_alone S1 S2 x) HNum.out
    obtain ⟨t2, f2, hsp⟩ : ∃ s e, showPr (prB S1 S2 x) = (s, e) := ⟨_, _, rfl⟩
    rw [hsp] at C5 hW
    rw [HSx.out, (HSm.out S1 S2).1] at hW
    dsimp only at hW
    have HW := Lib.hid hW
    clear hb5 y1 y2 hwb5 hW hsp q0 q1 q2 q3 q4 q5 q6
    go_wp2_with fail
    refine C5.out.mono ?_
    rintro e w6 ⟨rfl, hb6⟩
    have HB6 := Lib.hid (HB5.out.trans (hb6.mono HB5.out.size))
    clear hb6 C5
    have row := (HX1.out _ HB6.out)
    have q0 := cell_at row 0
    have q1 := cell_at row 1
    have q2 := cell_at row 2
    have q3 := cell_at row 3
    have q4 := cell_at row 4
    have q5 := cell_at row 5
    have q6 := cell_at row 6
    simp only [List.getElem?_toArray, List.getElem?_cons_zero, List.getElem?_cons_succ] at q0 q1 q2 q3 q4 q5 q6
    clear row
    go_wp2_with fail
    refine (salone_any x w6).mono ?_
    rintro e w7 ⟨S3, S4, rfl, hb7, y3, y4⟩
    have HB7 := Lib.hid (HB6.out.trans (hb7.mono HB6.out.size))
    have hwb7 := HBw.out _ HB7.out
    have C7 := sitems_any (prB S3 S4 x) w7 (prB_in y3 y4 (HI.out _ hwb7)) (by have := HSm.out S3 S4; omega)
    rw [(HSm.out S3 S4).1] at C7
    have HC7 := Lib.hid C7
    have hn := (HSm.out S3 S4).2
    generalize 1 + exGiven x = n at *
    clear hb7 y3 y4 hwb7 C7 q0 q1 q2 q3 q4 q5 q6
    go_wp2_with fail
    refine HC7.out.mono ?_
    rintro e w8 ⟨rfl, hb8⟩
    have HB8 := Lib.hid (HBw.out _ (HB7.out.trans (hb8.mono HB7.out.size)))
    have HNn := Lib.hid hn
    clear hb8 HC7 HSm hn
    by_cases he : e1 = 0
    · subst he
      by_cases hf : f2 = 0
      · subst hf
        obtain ⟨ht, hn2⟩ := HW.out.1 rfl rfl
        have c1 : ¬ (9223372036854775807 < 17 + s1.length) := by have := HSl.out; omega
        have c2 : ¬ (9223372036854775807 < 17 + s1.length + 4) := by have := HSl.out; omega
        have e3 : (⟨#[116, 104, 114, 101, 97, 100, 32, 123, 10, 32, 32, 112, 114, 105, 110, 116, 32]⟩ : ByteArray) ++ ⟨s1.toArray⟩ ++ ⟨#[59, 10, 125, 10]⟩ = ⟨t2.toArray⟩ := by
          rw [ht, ← List.append_assoc]
          exact cat_b3 [116, 104, 114, 101, 97, 100, 32, 123, 10, 32, 32, 112, 114, 105, 110, 116, 32] s1 [59, 10, 125, 10]
        have d1 : decide ((2 : Int) ≤ (n : Int)) = true := by simp; omega
        have d1n : decide (2 ≤ n) = true := by simpa using hn2
        clear ht hn2
        go_wp2_with fail
        refine (alive03_any w8 (HG.out _ HB8.out).1 (HG.out _ HB8.out).2).mono ?_
        rintro e w9 ⟨rfl, hb9⟩
        have HB9 := Lib.hid (HB8.out.trans (hb9.mono HB8.out.size))
        clear hb9
        go_wp2_with fail
        go_ret
        exact ⟨rfl, HB9.out⟩
      · obtain ⟨rfl, rfl, hor⟩ := HW.out.2.1 rfl hf
        by_cases h1 : 1024 < n
        · have d1 : decide ((1024 : Int) < (n : Int)) = true := by simp; omega
          have d1n : decide (1024 < n) = true := by simpa using h1
          clear hor h1 hf
          go_wp2_with fail
          refine (alive03_any w8 (HG.out _ HB8.out).1 (HG.out _ HB8.out).2).mono ?_
          rintro e w9 ⟨rfl, hb9⟩
          have HB9 := Lib.hid (HB8.out.trans (hb9.mono HB8.out.size))
          clear hb9
          go_wp2_with fail
          go_ret
          exact ⟨rfl, HB9.out⟩
        · have h2 : 65506 < s1.length := hor.resolve_left h1
          have d1 : decide ((1024 : Int) < (n : Int)) = false := by simp; omega
          have d1n : decide (1024 < n) = false := by simpa using h1
          have d2 : decide ((65506 : Int) < (s1.length : Int)) = true := by simp; omega
          have d2n : decide (65506 < s1.length) = true := by simpa using h2
          clear hor h1 hf h2
          go_wp2_with fail
          refine (alive03_any w8 (HG.out _ HB8.out).1 (HG.out _ HB8.out).2).mono ?_
          rintro e w9 ⟨rfl, hb9⟩
          have HB9 := Lib.hid (HB8.out.trans (hb9.mono HB8.out.size))
          clear hb9
          go_wp2_with fail
          go_ret
          exact ⟨rfl, HB9.out⟩
    · obtain ⟨hor, rfl, rfl⟩ := HW.out.2.2 he
      have z1 : (e1 == 0) = false := by simpa using he
      by_cases hfe : f2 = e1
      · subst hfe
        clear hor he
        go_wp2_with fail
        refine (alive03_any w8 (HG.out _ HB8.out).1 (HG.out _ HB8.out).2).mono ?_
        rintro e w9 ⟨rfl, hb9⟩
        have HB9 := Lib.hid (HB8.out.trans (hb9.mono HB8.out.size))
        clear hb9
        go_wp2_with fail
        go_ret
        exact ⟨rfl, HB9.out⟩
      · obtain ⟨h1, rfl⟩ := hor.resolve_left hfe
        have d1 : decide ((1024 : Int) < (n : Int)) = true := by simp; omega
        have d1n : decide (1024 < n) = true := by simpa using h1
        have z2 : ((3 : Int) == e1) = false := by simpa using hfe
        have z3 : decide ((3 : Int) = e1) = false := by simpa using hfe
        clear hor he h1 hfe
        go_wp2_with fail
        refine (alive03_any w8 (HG.out _ HB8.out).1 (HG.out _ HB8.out).2).mono ?_
        rintro e w9 ⟨rfl, hb9⟩
        have HB9 := Lib.hid (HB8.out.trans (hb9.mono HB8.out.size))
        clear hb9
        go_wp2_with fail
        go_ret
        exact ⟨rfl, HB9.out⟩
end Go.Proofs.YtblnmlbkgdncnaaDoor
