import Derived.Test.YtkklogikakcanaaGreatDoorTreeL
import Derived.Test.YtkklogikakcanaaGreatDoorTreePlain2
set_option linter.unusedVariables false
set_option linter.unusedSimpArgs false
open List renaming getElem?_toArray → sl7, getElem?_cons_zero → sl8, getElem?_cons_succ → sl9
namespace Go.Proofs.YtkklogikakcanaaGreatDoor
open Go.RowKit
set_option maxHeartbeats 2000000 in
theorem ccp_any (B Wb Mb Pb X : Nat) (p : Pr) (w : World) (hT : TwP B Wb Mb Pb 0 (-1) w) (hX : w.heap[X]? = some (prObj p)) (hI : PrIn w B p) :
  Calls Tryz.prog 74 #[.pointer (some ⟨Wb, 0, none⟩), .pointer (some ⟨X, 0, none⟩), .pointer (some ⟨Pb, 0, none⟩)] w fun e w' => SEnds Wb Mb Pb (chkPr p) e w' ∧ KpP Wb Pb w w' := by
 have C := Lib.hid (wprog_any B Wb Mb Pb p w hT hI)
 have hmf : ∀ (fn : Fn) (first cap : Array Value) (w : World), (Instr.makeFunc fn first cap).run Tryz.prog w = .ok (.func fn first cap) w := fun _ _ _ _ => rfl
 have q0 := cell_at hX 0
 have q1 := cell_at hX 1
 have q2 := cell_at hX 2
 have q3 := cell_at hX 3
 simp only [sl7, sl8, sl9] at q0 q1 q2 q3
 obtain ⟨R, hR⟩ : ∃ R, chkPr p = R := ⟨_, rfl⟩
 rw [hR] at C ⊢
 clear hX hI hT hR
 go_enter Tryz.func74, Tryz.ntmps74
 go_wp2_with fail
 cases R with
 | bad q er =>
  refine C.out.mono ?_
  rintro e w7 ⟨⟨rfl, hp⟩, hk⟩
  exact ⟨rfl, ⟨rfl, hp⟩, hk⟩
 | on a =>
  refine C.out.mono ?_
  rintro e w7 ⟨⟨rfl, hw, hp⟩, hk⟩
  have HH := Lib.hid (And.intro hw (And.intro hp hk))
  clear hw hp hk C
  go_wp2_with fail
  go_end0
  exact ⟨⟨rfl, HH.out.1, HH.out.2.1⟩, HH.out.2.2⟩
def CEnds (Pb : Nat) (r : Chk) (e : Ending) (w' : World) : Prop := match r with
 | .on a => e = .returned (.int .i64 0) ∧ PlAt Pb a.p w'
 | .bad q er => e = .returned (.int .i64 er) ∧ PlAt Pb q w'
set_option maxHeartbeats 4000000 in
set_option maxRecDepth 100000 in
theorem caughtP_any (B Pb X : Nat) (p : Pr) (w : World) (G : GlB B w) (hX : w.heap[X]? = some (prObj p)) (hI : PrIn w B p) (hP : PlAt Pb (-1) w) (hBP : B ≤ Pb) :
  Calls Tryz.prog 73 #[.func (.func 74) #[] #[.pointer (some ⟨X, 0, none⟩), .pointer (some ⟨Pb, 0, none⟩)]] w fun e w' => CEnds Pb (chkPr p) e w' ∧ Kept (fun k => k = Pb) w w' := by
 obtain ⟨R, hR⟩ : ∃ R, chkPr p = R := ⟨_, rfl⟩
 rw [hR]
 have HR := Lib.hid hR
 have hPl := hP.lt
 have hmf : ∀ (fn : Fn) (first cap : Array Value) (w : World), (Instr.makeFunc fn first cap).run Tryz.prog w = .ok (.func fn first cap) w := fun _ _ _ _ => rfl
 clear hR
 go_enter_defers Tryz.func73, Tryz.ntmps73
 go_wp2_with fail
 obtain ⟨E, hE⟩ : ∃ E, w.heap.size = E := ⟨_, rfl⟩
 obtain ⟨w0, hw0⟩ : ∃ w0, w.alloc (.cells #[.int .i64 0] 31 (0, 0)) = w0 := ⟨_, rfl⟩
 have b0 : Below w.heap.size w w0 := by rw [← hw0]; exact (Below.refl _ _).alloc (Nat.le_refl _) _
 have e0 : w0.heap[E]? = some (.cells #[.int .i64 0] 31 (0, 0)) := by rw [← hw0, ← hE]; exact heap_alloc_new w _
 simp only [hE, hw0]
 refine (arities_any w0).mono ?_
 rintro e w1 ⟨rfl, hk1, hb1⟩
 obtain ⟨Mb, hM⟩ : ∃ Mb, w0.heap.size = Mb := ⟨_, rfl⟩
 obtain ⟨Wb, hW⟩ : ∃ Wb, w1.heap.size = Wb := ⟨_, rfl⟩
 obtain ⟨w2, hw2⟩ : ∃ w2, w1.alloc (.cells #[.int .i64 0, .map (some Mb)] 164 (0, 0)) = w2 := ⟨_, rfl⟩
 have hb2 : Below w1.heap.size w1 w2 := by rw [← hw2]; exact (Below.refl _ _).alloc (Nat.le_refl _) _
 have wk : WkAt Wb Mb 0 w2 := by rw [← hw2, ← hW]; exact heap_alloc_new w1 _
 have hMW : Mb < Wb := by rw [← hM, ← hW]; exact ValMap.lt hk1
 have hEM : E < Mb := by rw [← hM]; exact (Array.getElem?_eq_some_iff.1 e0).1
 have hb02 : Below w0.heap.size w0 w2 := hb1.trans (hb2.mono hb1.size)
 have hb : Below w.heap.size w w2 := b0.trans (hb02.mono b0.size)
 have hS : TwS B Wb Mb 0 w2 := ⟨wk, by rw [← hM]; exact ValMap.of_block hk1 (hb2.block _ (ValMap.lt hk1)), G.below (hb.mono G.le), by rw [← hM]; exact Nat.le_trans G.le b0.size, hMW⟩
 have hT : TwP B Wb Mb Pb 0 (-1) w2 := ⟨hS, (hb.block Pb hPl).trans hP, hBP, by rw [hE] at hPl; exact Nat.lt_trans hPl hEM⟩
 have hXl : X < w.heap.size := (Array.getElem?_eq_some_iff.1 hX).1
 have C := Lib.hid (ccp_any B Wb Mb Pb X p w2 hT ((hb.block X hXl).trans hX) (hI.keep (hb.mono G.le) (Nat.le_refl B)))
 have e2 : w2.heap[E]? = some (.cells #[.int .i64 0] 31 (0, 0)) := (hb02.block E (by rw [hM]; exact hEM)).trans e0
 rw [hM]
 go_wp2_with fail
 rw [HR.out] at C
 have hEl : E < w2.heap.size := (Array.getElem?_eq_some_iff.1 e2).1
 have hPE : Pb ≠ E := by rw [hE] at hPl; exact Nat.ne_of_lt hPl
 have hEW : ¬ (E = Wb ∨ E = Pb) := fun hh => by
  rcases hh with hh | hh
  ·exact Nat.ne_of_lt (Nat.lt_trans hEM hMW) hh
  ·exact hPE hh.symm
 have hEWb : E < Wb := Nat.lt_trans hEM hMW
 have HK2 : Hid (∀ W, KpP Wb Pb w2 W → Kept (fun k => k = Pb) w W) := Lib.hid fun W hk =>
  ⟨hk.os.trans hb.os, hk.tape.trans hb.tape, hk.output.trans hb.output, Nat.le_trans hb.size hk.size, fun k hk2 hs =>
   (hk.block k (Nat.lt_of_lt_of_le hk2 hb.size) (fun hh => by
    rcases hh with hh | hh
    ·rw [hE] at hk2; omega
    ·exact hs hh)).trans (hb.block k hk2)⟩
 have HE := Lib.hid hE
 clear hb hb02 hS hT hEWb hXl b0 e0 hb1 hk1 hM hW hw2 hb2 wk hMW hEM hX hI G hw0 hPl hP hBP
 cases R with
 | bad q er =>
  refine C.out.mono ?_
  rintro e w3 ⟨⟨rfl, hp3⟩, hk3⟩
  have e3 := (hk3.block E hEl hEW).trans e2
  have c3 := cell_at e3 0
  have z3 := frz_at e3 0
  simp only [sl7, sl8] at c3
  have HF := Lib.hid (HK2.out _ hk3)
  have HP3 := Lib.hid hp3
  clear hk3 e2 e3 C hp3
  refine leaves_cons (f := 109) (args := #[.pointer (some ⟨E, 0, none⟩)]) (by simp) (by simp [go_sem]) ?_
  refine (tcatch_panic ⟨E, 0, none⟩ 0 er [] w3 c3 z3).mono ?_
  rintro e u' w'' ⟨rfl, rfl, rfl⟩
  have q3 := World.cell?_setCell_same w3 ⟨E, 0, none⟩ (.int .i64 er) c3
  have HZ : CEnds Pb (.bad q er) (.returned (.int .i64 er)) (w3.setCell ⟨E, 0, none⟩ (.int .i64 er)) ∧ Kept (fun k => k = Pb) w (w3.setCell ⟨E, 0, none⟩ (.int .i64 er)) :=
   ⟨⟨rfl, (Below.heap_setCell _ _ _ _ hPE).trans HP3.out⟩, HF.out.setCell (Or.inr (by rw [HE.out]; exact Nat.le_refl _)) _⟩
  simp [Leaves, settle, results, Tryz.results73, go_sem, q3, HZ]
 | on a =>
  refine C.out.mono ?_
  rintro e w3 ⟨⟨rfl, hw3, hp3⟩, hk3⟩
  have e3 := (hk3.block E hEl hEW).trans e2
  have c3 := cell_at e3 0
  have z3 := frz_at e3 0
  simp only [sl7, sl8] at c3
  have HF := Lib.hid (HK2.out _ hk3)
  have HP3 := Lib.hid hp3
  clear hw3 hk3 e2 e3 C hp3
  go_wp2_with fail
  refine leaves_cons (f := 109) (args := #[.pointer (some ⟨E, 0, none⟩)]) (by simp) (by simp [go_sem]) ?_
  refine (tcatch_idle ⟨E, 0, none⟩ _).mono ?_
  rintro e u' w'' ⟨rfl, rfl, rfl⟩
  have q3 := World.cell?_setCell_same w3 ⟨E, 0, none⟩ (.int .i64 0) c3
  have HZ : CEnds Pb (.on a) (.returned (.int .i64 0)) (w3.setCell ⟨E, 0, none⟩ (.int .i64 0)) ∧ Kept (fun k => k = Pb) w (w3.setCell ⟨E, 0, none⟩ (.int .i64 0)) :=
   ⟨⟨rfl, (Below.heap_setCell _ _ _ _ hPE).trans HP3.out⟩, HF.out.setCell (Or.inr (by rw [HE.out]; exact Nat.le_refl _)) _⟩
  simp [Leaves, settle, results, Tryz.results73, go_sem, q3, HZ]
def faultR : Chk → Int × Int
 | .bad q e => (q, e)
 | .on _ => (0, 0)
theorem faultOf_r (p : Pr) : faultOf p = faultR (chkPr p) := by
 unfold faultOf faultR
 cases chkPr p <;> rfl
set_option maxHeartbeats 4000000 in
theorem tfault_any (B : Nat) (p : Pr) (w : World) (G : GlB B w) (hI : PrIn w B p) :
  Calls Tryz.prog 38 #[p.val] w fun e w' => e = .returned (.tuple #[.int .i64 (faultOf p).1, .int .i64 (faultOf p).2]) ∧ Below w.heap.size w w' := by
 have hmf : ∀ (fn : Fn) (first cap : Array Value) (w : World), (Instr.makeFunc fn first cap).run Tryz.prog w = .ok (.func fn first cap) w := fun _ _ _ _ => rfl
 obtain ⟨X, hX⟩ : ∃ X, w.heap.size = X := ⟨_, rfl⟩
 obtain ⟨w1, hw1⟩ : ∃ w1, w.alloc (prObj p) = w1 := ⟨_, rfl⟩
 have hb1 : Below w.heap.size w w1 := by rw [← hw1]; exact (Below.refl _ _).alloc (Nat.le_refl _) _
 have x1 : w1.heap[X]? = some (prObj p) := by rw [← hw1, ← hX]; exact heap_alloc_new w _
 have hs1 : w1.heap.size = X + 1 := by rw [← hw1, ← hX]; exact World.size_alloc _ _
 obtain ⟨w3, hw3⟩ : ∃ w3, w1.alloc (.cells #[.int .i64 (-1)] 3 (0, 0)) = w3 := ⟨_, rfl⟩
 have hb13 : Below w1.heap.size w1 w3 := by rw [← hw3]; exact (Below.refl _ _).alloc (Nat.le_refl _) _
 have p3 : PlAt (X + 1) (-1) w3 := by rw [← hw3, ← hs1]; exact heap_alloc_new w1 _
 have hwPb : w.heap.size ≤ X + 1 := by omega
 have hb3 : Below w.heap.size w w3 := hb1.trans (hb13.mono hb1.size)
 have x3 : w3.heap[X]? = some (prObj p) := (hb13.block X (Array.getElem?_eq_some_iff.1 x1).1).trans x1
 have C := Lib.hid (caughtP_any B (X + 1) X p w3 (G.below (hb3.mono G.le)) x3 (hI.keep (hb3.mono G.le) (Nat.le_refl B)) p3 (Nat.le_trans G.le hwPb))
 have HB := Lib.hid hb3
 have HPl := Lib.hid hwPb
 have HN := Lib.hid (And.intro hX (And.intro hw1 hw3))
 have hNE := Lib.hid (chkPr_nz p)
 obtain ⟨R, hR⟩ : ∃ R, chkPr p = R := ⟨_, rfl⟩
 have HFo : Hid (faultOf p = faultR R) := Lib.hid (by rw [← hR]; exact faultOf_r p)
 rw [hR] at C hNE
 obtain ⟨F, hF⟩ : ∃ F, faultOf p = F := ⟨_, rfl⟩
 rw [hF] at HFo ⊢
 clear hF hR hI G hX hw1 hb1 x1 hs1 hb13 hwPb p3 hw3 hb3 x3
 go_enter Tryz.func38, Tryz.ntmps38
 go_wp2_with fail
 simp only [HN.out.1, HN.out.2.1]
 go_wp2_with fail
 simp only [HN.out.2.2]
 refine C.out.mono ?_
 rintro e w4 ⟨hE4, hk4⟩
 have HB4 := Lib.hid (HB.out.trans (hk4.below HB.out.size (fun k hk => by rw [hk]; exact HPl.out)))
 clear hk4
 cases R with
 | on a =>
  obtain ⟨rfl, hp⟩ := hE4
  obtain rfl : F = (0, 0) := HFo.out
  have c4 := cell_at hp 0
  have f4 := frz_at hp 0
  simp only [sl7, sl8] at c4
  have HZ : Hid (Below w.heap.size w (w4.setCell ⟨X + 1, 0, none⟩ (.int .i64 0))) := Lib.hid (HB4.out.setCell (p := ⟨X + 1, 0, none⟩) HPl.out _)
  have s4 := World.cell?_setCell_same w4 ⟨X + 1, 0, none⟩ (.int .i64 0) c4
  clear hp
  go_wp2_with fail
  refine bodyPost_ret (v := .tuple #[.int .i64 0, .int .i64 0]) (by simp [results, Tryz.results38, go_sem, s4]) rfl ?_
  exact ⟨rfl, HZ.out⟩
 | bad q er =>
  obtain ⟨rfl, hp⟩ := hE4
  obtain rfl : F = (q, er) := HFo.out
  have hne := hNE.out q er rfl
  have hn2 : (er == 0) = false := by simpa using hne
  have hn3 : decide (er = 0) = false := by simpa using hne
  have c4 := cell_at hp 0
  have f4 := frz_at hp 0
  simp only [sl7, sl8] at c4
  have HZ : Hid (Below w.heap.size w (w4.setCell ⟨X + 1, 0, none⟩ (.int .i64 q))) := Lib.hid (HB4.out.setCell (p := ⟨X + 1, 0, none⟩) HPl.out _)
  have s4 := World.cell?_setCell_same w4 ⟨X + 1, 0, none⟩ (.int .i64 q) c4
  clear hp hne
  go_wp2_with fail
  refine bodyPost_ret (v := .tuple #[.int .i64 q, .int .i64 er]) (by simp [results, Tryz.results38, go_sem, s4]) rfl ?_
  exact ⟨rfl, HZ.out⟩
end Go.Proofs.YtkklogikakcanaaGreatDoor
