/-
  show.Items: how many items an expression has.
-/
import Derived.Test.YtblnmlbkgdncnaaDoorKept
import Derived.Test.YtblnmlbkgdncnaaDoorSizeA
set_option linter.unusedVariables false
set_option linter.unusedSimpArgs false
namespace Go.Proofs.YtblnmlbkgdncnaaDoor
open Go.RowKit

/-- the count's variable, the function's variables -/
def NAt (Nb : Nat) (n : Int) (W : World) : Prop := W.heap[Nb]? = some (.cells #[.int .i64 n] 3 (0, 0))
def EAt (Nb Eb : Nat) (W : World) : Prop := W.heap[Eb]? = some (.cells #[.func (.func 28) #[] #[.pointer (some ⟨Nb, 0, none⟩), .pointer (some ⟨Eb, 0, none⟩)]] 69 (0, 0))
abbrev KpN (Nb : Nat) : World → World → Prop := Kept (fun k => k = Nb)
/-- what the count of an expression holds -/
structure CtE (B Nb Eb : Nat) (n : Int) (W : World) : Prop where
  n : NAt Nb n W
  e : EAt Nb Eb W
  ne : Nb ≠ Eb
  hBN : B ≤ Nb
  hB : B ≤ W.heap.size
section
variable {B Nb Eb : Nat} {n m : Int} {W W' W1 : World}
theorem NAt.lt (h : NAt Nb n W) : Nb < W.heap.size := (Array.getElem?_eq_some_iff.1 h).1
theorem EAt.lt (h : EAt Nb Eb W) : Eb < W.heap.size := (Array.getElem?_eq_some_iff.1 h).1
theorem NAt.set (h : NAt Nb n W) (m : Int) : NAt Nb m (W.setCell ⟨Nb, 0, none⟩ (.int .i64 m)) := by
  have := row_set h 0 (.int .i64 m)
  simpa [NAt] using this
theorem CtE.kept (h : CtE B Nb Eb n W) (hk : KpN Nb W W') (hn : NAt Nb m W') : CtE B Nb Eb m W' :=
  ⟨hn, (hk.block Eb h.e.lt (fun hh => h.ne hh.symm)).trans h.e, h.ne, h.hBN, Nat.le_trans h.hB hk.size⟩
theorem CtE.below (h : CtE B Nb Eb n W) (hb : Below W.heap.size W W') : CtE B Nb Eb n W' := h.kept (Kept.of_below hb) ((hb.block Nb h.n.lt).trans h.n)
theorem CtE.blw (h : CtE B Nb Eb n W) (hk : KpN Nb W W') : Below B W W' := Kept.below hk h.hB (fun k hk => by rw [hk]; exact h.hBN)
theorem KpN.set (h : KpN Nb W1 W) (u : Value) : KpN Nb W1 (W.setCell ⟨Nb, 0, none⟩ u) := Kept.setCell (S := fun k => k = Nb) h (p := ⟨Nb, 0, none⟩) (Or.inl rfl) u
theorem CtE.step (h : CtE B Nb Eb n W) : CtE B Nb Eb (n + 1) (W.setCell ⟨Nb, 0, none⟩ (.int .i64 (n + 1))) := h.kept (KpN.set (Kept.refl _ _) _) (h.n.set _)
end

set_option maxHeartbeats 8000000 in
set_option maxRecDepth 100000 in
theorem sitemE_any (B Nb Eb : Nat) : ∀ (sz : Nat) (x : Ex), exCount x ≤ sz → ∀ (n : Int) (w : World), CtE B Nb Eb n w → ExIn w B x → 0 ≤ n → n + (exCount x : Int) ≤ 1000000000000 →
    Calls Tryd.prog 28 #[x.val, .pointer (some ⟨Nb, 0, none⟩), .pointer (some ⟨Eb, 0, none⟩)] w fun e w' => e = .returned (.tuple #[]) ∧ NAt Nb (n + exCount x) w' ∧ KpN Nb w w' := by
  intro sz
  induction sz using Nat.strongRecOn with
  | ind sz ih =>
  intro x hsz n w hT hI h0 hle
  obtain ⟨k, nn, nm, ty, d, args⟩ := x
  obtain ⟨X, hX⟩ : ∃ X, w.heap.size = X := ⟨_, rfl⟩
  obtain ⟨w1, hw1⟩ : ∃ w1, w.alloc (.cells #[.int .u8 k, .int .i64 nn, .string ⟨nm.toArray⟩, .int .u8 ty.k, .string ⟨ty.nm.toArray⟩, .int .i64 ty.n, .slice d.a args.length d.c] 33 (0, 0)) = w1 := ⟨_, rfl⟩
  have hb1 : Below w.heap.size w w1 := by rw [← hw1]; exact (Below.refl _ _).alloc (Nat.le_refl _) _
  have x1 : w1.heap[X]? = some (.cells #[.int .u8 k, .int .i64 nn, .string ⟨nm.toArray⟩, .int .u8 ty.k, .string ⟨ty.nm.toArray⟩, .int .i64 ty.n, .slice d.a args.length d.c] 33 (0, 0)) := by rw [← hw1, ← hX]; exact heap_alloc_new w _
  have hXN : X ≠ Nb := by have := hT.n.lt; omega
  have hc : exCount (.mk k nn nm ty d args) = 1 + exCounts args := by rw [exCount]
  have hT1 := hT.below hb1
  have c0 := cell_at hT1.n 0
  have f0 := frz_at hT1.n 0
  have e0 : Hid (∀ W, KpN Nb w1 W → W.heap[X]? = some (.cells #[.int .u8 k, .int .i64 nn, .string ⟨nm.toArray⟩, .int .u8 ty.k, .string ⟨ty.nm.toArray⟩, .int .i64 ty.n, .slice d.a args.length d.c] 33 (0, 0))) := Lib.hid fun W hk => (hk.block X (Array.getElem?_eq_some_iff.1 x1).1 hXN).trans x1
  simp only [List.getElem?_toArray, List.getElem?_cons_zero] at c0
  have hw2 : KpN Nb w1 (w1.setCell ⟨Nb, 0, none⟩ (.int .i64 (n + 1))) := KpN.set (Kept.refl _ _) _
  have HT2 := Lib.hid hT1.step
  have HK2 := Lib.hid hw2
  have q6 := cell_at (e0.out _ hw2) 6
  simp only [List.getElem?_toArray, List.getElem?_cons_zero, List.getElem?_cons_succ] at q6
  have HKw : Hid (∀ W, KpN Nb w1 W → KpN Nb w W) := Lib.hid fun W hk => (Kept.of_below hb1).trans hk
  have HI : Hid (ExsIn w1 B d args) := Lib.hid (hI.keep (hb1.mono hT.hB) (Nat.le_refl B)).args
  have HBl : Hid (∀ W, KpN Nb w1 W → Below B w1 W) := Lib.hid fun W hk => hT1.blw hk
  have hlen : args.length ≤ 140737488355328 := hI.len
  have HN := Lib.hid (And.intro hX hw1)
  have HSum : Hid (0 ≤ n ∧ n + 1 + (exCounts args : Int) ≤ 1000000000000) := Lib.hid ⟨h0, by rw [hc] at hle; push_cast at hle; omega⟩
  have HF : Hid (n + ((exCount (.mk k nn nm ty d args) : Nat) : Int) = n + 1 + (exCounts args : Int)) := Lib.hid (by rw [hc]; push_cast; omega)
  rw [HF.out]
  have hsz2 : exCounts args < sz := by omega
  have hn1 : IntKind.i64.wrap (n + 1) = n + 1 := by rw [IntKind.wrap_i64]; omega
  rw [← hw1] at c0 f0
  rw [← hw1, ← hX] at q6
  dsimp only [Ex.val, Ex.k, Ex.n, Ex.nm, Ex.t, Ex.d, Ex.args]
  clear hX hw1 hb1 x1 hXN hT hI hT1 hw2 hc hsz
  go_enter Tryd.func28, Tryd.ntmps28
  go_wp2_with fail
  simp only [HN.out.1, HN.out.2]
  clear c0 f0 q6
  have HE0 : Hid (exCounts (args.drop 0) = exCounts args) := Lib.hid (by rw [List.drop_zero])
  go_loopw [11] (fun ii wr => ∃ (j : Nat) (m : Int), ii = .int .i64 j ∧ j ≤ args.length ∧ Hid (CtE B Nb Eb m wr) ∧ Hid (KpN Nb w1 wr) ∧ Hid (0 ≤ m ∧ m + (exCounts (args.drop j) : Int) = n + 1 + (exCounts args : Int))) (fun ii _ => args.length - (intOf ii).toNat)
  case atStart => exact ⟨0, n + 1, rfl, Nat.zero_le _, HT2, HK2, Lib.hid ⟨by have := HSum.out; omega, by rw [HE0.out]⟩⟩
  case round =>
    obtain ⟨j, m, rfl, hj, hT, hK, hM⟩ := hrel
    clear HT2 HK2 HE0
    have p2 : (0 : Int) ≤ (j : Int) := Int.natCast_nonneg _
    by_cases hlt : j < args.length
    · obtain ⟨y, hy⟩ : ∃ y, args[j]? = some y := ⟨_, List.getElem?_eq_getElem hlt⟩
      have hdrop : args.drop j = y :: args.drop (j + 1) := by
        have := List.drop_eq_getElem_cons hlt
        rw [List.getElem?_eq_getElem hlt] at hy
        injection hy with hy
        rw [this, hy]
      obtain ⟨rb, ro, hda, hrb, hrow⟩ := HI.out.row (by intro h0; rw [h0] at hlt; simp at hlt)
      have hmem := List.mem_of_getElem? hy
      have hkeep := HBl.out _ hK.out
      obtain ⟨z0, z1, z2, z3, z4, z5, z6⟩ := (hrow j y hy).keep (w' := wr) fun o' => hkeep.cell (p := ⟨rb, o', none⟩) hrb
      have hyI := (HI.out.sub y hmem).keep hkeep (Nat.le_refl B)
      have hyc := exCounts_mem hmem
      have hM1 := hM.out
      rw [hdrop, exCounts] at hM1
      obtain ⟨X6, hX6⟩ : ∃ X6, wr.heap.size = X6 := ⟨_, rfl⟩
      obtain ⟨w6, hw6⟩ : ∃ w6, wr.alloc (.cells #[.int .u8 y.k, .int .i64 y.n, .string ⟨y.nm.toArray⟩, .int .u8 y.t.k, .string ⟨y.t.nm.toArray⟩, .int .i64 y.t.n, .slice y.d.a y.args.length y.d.c] 33 (0, 0)) = w6 := ⟨_, rfl⟩
      have hb6 : Below wr.heap.size wr w6 := by rw [← hw6]; exact (Below.refl _ _).alloc (Nat.le_refl _) _
      have x6 : w6.heap[X6]? = some (.cells #[.int .u8 y.k, .int .i64 y.n, .string ⟨y.nm.toArray⟩, .int .u8 y.t.k, .string ⟨y.t.nm.toArray⟩, .int .i64 y.t.n, .slice y.d.a y.args.length y.d.c] 33 (0, 0)) := by rw [← hw6, ← hX6]; exact heap_alloc_new wr _
      have HT6 := Lib.hid (hT.out.below hb6)
      have g0 := cell_at HT6.out.e 0
      have r0 := cell_at x6 0
      have r1 := cell_at x6 1
      have r2 := cell_at x6 2
      have r3 := cell_at x6 3
      have r4 := cell_at x6 4
      have r5 := cell_at x6 5
      have r6 := cell_at x6 6
      simp only [List.getElem?_toArray, List.getElem?_cons_zero, List.getElem?_cons_succ] at g0 r0 r1 r2 r3 r4 r5 r6
      have C := Lib.hid (ih (exCount y) (by omega) y (Nat.le_refl _) m w6 HT6.out (hyI.keep (hb6.mono hT.out.hB) (Nat.le_refl B)) hM.out.1 (by have := HSum.out; have h2 : (0 : Int) ≤ (exCounts (args.drop (j + 1)) : Int) := Int.natCast_nonneg _; push_cast at hM1; omega))
      have HK6 := Lib.hid (hK.out.trans (Kept.of_below hb6))
      have HM6 : Hid (0 ≤ m + (exCount y : Int) ∧ m + (exCount y : Int) + (exCounts (args.drop (j + 1)) : Int) = n + 1 + (exCounts args : Int)) := Lib.hid ⟨by have := hM.out.1; omega, by push_cast at hM1; omega⟩
      have p1 : (j : Int) < (args.length : Int) := by omega
      rw [← hw6] at g0 r0 r1 r2 r3 r4 r5 r6
      rw [← hX6] at r0 r1 r2 r3 r4 r5 r6
      have HN6 := Lib.hid (And.intro hX6 hw6)
      clear hb6 x6 hX6 hw6 hrow hdrop hy hmem hkeep hyI hyc hM hM1 hT hK ih hrb
      rw [hda]
      go_wp2_with fail
      simp only [HN6.out.1, HN6.out.2]
      clear z0 z1 z2 z3 z4 z5 z6 g0 r0 r1 r2 r3 r4 r5 r6
      refine C.out.mono ?_
      rintro e w7 ⟨rfl, hn7, hk7⟩
      have HT7 := Lib.hid (HT6.out.kept hk7 hn7)
      have HK7 := Lib.hid (HK6.out.trans hk7)
      clear hn7 hk7 C
      go_wp2_with fail
      go_roundw
      case rel => exact ⟨j + 1, _, by go_num, by omega, HT7, HK7, HM6⟩
      case measure => simp [intOf]; omega
    · obtain rfl : j = args.length := by omega
      have HZ : Hid (m = n + 1 + (exCounts args : Int)) := Lib.hid (by have h := hM.out.2; rw [List.drop_length, exCounts] at h; simpa using h)
      have HFn : Hid (NAt Nb (n + 1 + (exCounts args : Int)) wr ∧ KpN Nb w wr) := Lib.hid ⟨by rw [← HZ.out]; exact hT.out.n, HKw.out _ hK.out⟩
      clear hM hT hK ih HZ
      go_wp2_with fail
      go_end0
      exact ⟨rfl, HFn.out⟩
end Go.Proofs.YtblnmlbkgdncnaaDoor
