/-
  trees: an expression alone, checked.
-/
import Derived.Test.YtblnmlbkgdncnaaDoorTreeG
set_option linter.unusedVariables false
set_option linter.unusedSimpArgs false
namespace Go.Proofs.YtblnmlbkgdncnaaDoor
open Go.RowKit

/-- an expression's box -/
abbrev exObj (x : Ex) : Obj := .cells #[.int .u8 x.k, .int .i64 x.n, .string ⟨x.nm.toArray⟩, .int .u8 x.t.k, .string ⟨x.t.nm.toArray⟩, .int .i64 x.t.n, .slice x.d.a x.args.length x.d.c] 33 (0, 0)

set_option maxHeartbeats 2000000 in
theorem ccx_any (B Wb Mb X it : Nat) (x : Ex) (w : World) (hS : TwS B Wb Mb it w) (hX : w.heap[X]? = some (exObj x)) (hI : ExIn w B x) (hit : it ≤ 1024) :
    Calls Tryd.prog 37 #[.pointer (some ⟨Wb, 0, none⟩), .pointer (some ⟨X, 0, none⟩)] w fun e w' => ExEnds Wb Mb (chkEx x 1 it) e w' ∧ KpW Wb w w' := by
  have C0 := wexpr_any B Wb Mb _ x (Nat.le_refl _) 1 it w hS hI hit (by decide)
  rw [show ((1 : Nat) : Int) = 1 from rfl] at C0
  have C := Lib.hid C0
  have q0 := cell_at hX 0
  have q1 := cell_at hX 1
  have q2 := cell_at hX 2
  have q3 := cell_at hX 3
  have q4 := cell_at hX 4
  have q5 := cell_at hX 5
  have q6 := cell_at hX 6
  simp only [List.getElem?_toArray, List.getElem?_cons_zero, List.getElem?_cons_succ] at q0 q1 q2 q3 q4 q5 q6
  obtain ⟨R, hR⟩ : ∃ R, chkEx x 1 it = R := ⟨_, rfl⟩
  rw [hR] at C ⊢
  clear hX hI hS C0 hR hit
  go_enter Tryd.func37, Tryd.ntmps37
  go_wp2_with fail
  cases R with
  | error er =>
    refine C.out.mono ?_
    rintro e w7 ⟨rfl, hk7⟩
    exact ⟨rfl, rfl, hk7⟩
  | ok m =>
    refine C.out.mono ?_
    rintro e w7 ⟨⟨rfl, hw7⟩, hk7⟩
    have HH := Lib.hid (And.intro hw7 hk7)
    clear hw7 hk7 C
    go_wp2_with fail
    go_end0
    exact ⟨⟨rfl, HH.out.1⟩, HH.out.2⟩

set_option maxHeartbeats 4000000 in
set_option maxRecDepth 100000 in
theorem caughtX_any (B X : Nat) (x : Ex) (w : World) (G : GlB B w) (hX : w.heap[X]? = some (exObj x)) (hI : ExIn w B x) :
    Calls Tryd.prog 36 #[.func (.func 37) #[] #[.pointer (some ⟨X, 0, none⟩)]] w fun e w' => e = .returned (.int .i64 (exFault x)) ∧ Below w.heap.size w w' := by
  obtain ⟨V, hV⟩ : ∃ V, exFault x = V := ⟨_, rfl⟩
  rw [hV]
  have HV := Lib.hid hV
  clear hV
  have hmf : ∀ (fn : Fn) (first cap : Array Value) (w : World), (Instr.makeFunc fn first cap).run Tryd.prog w = .ok (.func fn first cap) w := fun _ _ _ _ => rfl
  go_enter_defers Tryd.func36, Tryd.ntmps36
  go_wp2_with fail
  obtain ⟨E, hE⟩ : ∃ E, w.heap.size = E := ⟨_, rfl⟩
  obtain ⟨w0, hw0⟩ : ∃ w0, w.alloc (.cells #[.int .i64 0] 25 (0, 0)) = w0 := ⟨_, rfl⟩
  have b0 : Below w.heap.size w w0 := by rw [← hw0]; exact (Below.refl _ _).alloc (Nat.le_refl _) _
  have e0 : w0.heap[E]? = some (.cells #[.int .i64 0] 25 (0, 0)) := by rw [← hw0, ← hE]; exact heap_alloc_new w _
  simp only [hE, hw0]
  refine (arities_any w0).mono ?_
  rintro e w1 ⟨rfl, hk1, hb1⟩
  obtain ⟨Mb, hM⟩ : ∃ Mb, w0.heap.size = Mb := ⟨_, rfl⟩
  obtain ⟨Wb, hW⟩ : ∃ Wb, w1.heap.size = Wb := ⟨_, rfl⟩
  obtain ⟨w2, hw2⟩ : ∃ w2, w1.alloc (.cells #[.int .i64 0, .map (some Mb)] 107 (0, 0)) = w2 := ⟨_, rfl⟩
  have hb2 : Below w1.heap.size w1 w2 := by rw [← hw2]; exact (Below.refl _ _).alloc (Nat.le_refl _) _
  have wk : WkAt Wb Mb 0 w2 := by rw [← hw2, ← hW]; exact heap_alloc_new w1 _
  have hMW : Mb < Wb := by rw [← hM, ← hW]; exact ValMap.lt hk1
  have hEM : E < Mb := by rw [← hM]; exact (Array.getElem?_eq_some_iff.1 e0).1
  have hb02 : Below w0.heap.size w0 w2 := hb1.trans (hb2.mono hb1.size)
  have hb : Below w.heap.size w w2 := b0.trans (hb02.mono b0.size)
  have hS : TwS B Wb Mb 0 w2 := ⟨wk, by rw [← hM]; exact ValMap.of_block hk1 (hb2.block _ (ValMap.lt hk1)), G.below (hb.mono G.le), by rw [← hM]; exact Nat.le_trans G.le b0.size, hMW⟩
  have hXl : X < w.heap.size := (Array.getElem?_eq_some_iff.1 hX).1
  have C := Lib.hid (ccx_any B Wb Mb X 0 x w2 hS ((hb.block X hXl).trans hX) (hI.keep (hb.mono G.le) (Nat.le_refl B)) (by decide))
  have e2 : w2.heap[E]? = some (.cells #[.int .i64 0] 25 (0, 0)) := (hb02.block E (by rw [hM]; exact hEM)).trans e0
  rw [hM]
  go_wp2_with fail
  obtain ⟨R, hR⟩ : ∃ R, chkEx x 1 0 = R := ⟨_, rfl⟩
  have HR := Lib.hid hR
  rw [hR] at C
  have hEl : E < w2.heap.size := (Array.getElem?_eq_some_iff.1 e2).1
  have hEW : E ≠ Wb := Nat.ne_of_lt (Nat.lt_trans hEM hMW)
  have HB := Lib.hid hb
  have HWg : Hid (w.heap.size ≤ Wb) := Lib.hid (by rw [hE]; exact Nat.le_of_lt (Nat.lt_trans hEM hMW))
  have HE := Lib.hid hE
  clear hR hb hb02 hS hXl b0 e0 hb1 hk1 hM hW hw2 hb2 wk hMW hEM hX hI G hw0
  cases R with
  | error er =>
    obtain rfl : er = V := by rw [← HV.out]; unfold exFault; rw [HR.out]
    refine C.out.mono ?_
    rintro e w3 ⟨rfl, hk3⟩
    have e3 := (hk3.block E hEl hEW).trans e2
    have c3 := cell_at e3 0
    have z3 := frz_at e3 0
    simp only [List.getElem?_toArray, List.getElem?_cons_zero] at c3
    have HF := Lib.hid (HB.out.trans (hk3.below HB.out.size (fun k hk => by rw [hk]; exact HWg.out)))
    clear hk3 e2 e3 C
    refine leaves_cons (f := 56) (args := #[.pointer (some ⟨E, 0, none⟩)]) (by simp) (by simp [go_sem]) ?_
    refine (tcatch_panic ⟨E, 0, none⟩ 0 er [] w3 c3 z3).mono ?_
    rintro e u' w'' ⟨rfl, rfl, rfl⟩
    have q3 := World.cell?_setCell_same w3 ⟨E, 0, none⟩ (.int .i64 er) c3
    have HZ : Below w.heap.size w (w3.setCell ⟨E, 0, none⟩ (.int .i64 er)) := HF.out.setCell (by rw [HE.out]; exact Nat.le_refl _) _
    simp [Leaves, settle, results, Tryd.results36, go_sem, q3, HZ]
  | ok m =>
    obtain rfl : 0 = V := by rw [← HV.out]; unfold exFault; rw [HR.out]
    refine C.out.mono ?_
    rintro e w3 ⟨⟨rfl, hw3⟩, hk3⟩
    have e3 := (hk3.block E hEl hEW).trans e2
    have c3 := cell_at e3 0
    have z3 := frz_at e3 0
    simp only [List.getElem?_toArray, List.getElem?_cons_zero] at c3
    have HF := Lib.hid (HB.out.trans (hk3.below HB.out.size (fun k hk => by rw [hk]; exact HWg.out)))
    clear hw3 hk3 e2 e3 C
    go_wp2_with fail
    refine leaves_cons (f := 56) (args := #[.pointer (some ⟨E, 0, none⟩)]) (by simp) (by simp [go_sem]) ?_
    refine (tcatch_idle ⟨E, 0, none⟩ _).mono ?_
    rintro e u' w'' ⟨rfl, rfl, rfl⟩
    have q3 := World.cell?_setCell_same w3 ⟨E, 0, none⟩ (.int .i64 0) c3
    have HZ : Below w.heap.size w (w3.setCell ⟨E, 0, none⟩ (.int .i64 0)) := HF.out.setCell (by rw [HE.out]; exact Nat.le_refl _) _
    simp [Leaves, settle, results, Tryd.results36, go_sem, q3, HZ]

set_option maxHeartbeats 2000000 in
/-- an expression alone: what is wrong with it -/
theorem checkexpr_any (B : Nat) (x : Ex) (w : World) (G : GlB B w) (hI : ExIn w B x) :
    Calls Tryd.prog 22 #[x.val] w fun e w' => e = .returned (.int .i64 (exFault x)) ∧ Below w.heap.size w w' := by
  have hmf : ∀ (fn : Fn) (first cap : Array Value) (w : World), (Instr.makeFunc fn first cap).run Tryd.prog w = .ok (.func fn first cap) w := fun _ _ _ _ => rfl
  have hb0 := (Below.refl w.heap.size w).alloc (Nat.le_refl _) (exObj x)
  have C := Lib.hid (caughtX_any B w.heap.size x (w.alloc (exObj x)) (G.below (hb0.mono G.le)) (heap_alloc_new w _) (hI.keep (hb0.mono G.le) (Nat.le_refl B)))
  have HB := Lib.hid hb0
  clear hb0 hI G
  go_enter Tryd.func22, Tryd.ntmps22
  go_wp2_with (go_at_call 36; refine C.out.mono ?_; rintro e w1 ⟨rfl, hb1⟩; have HB1 := Lib.hid (HB.out.trans (hb1.mono HB.out.size)); clear hb1)
  go_ret
  exact ⟨rfl, HB1.out⟩
end Go.Proofs.YtblnmlbkgdncnaaDoor
