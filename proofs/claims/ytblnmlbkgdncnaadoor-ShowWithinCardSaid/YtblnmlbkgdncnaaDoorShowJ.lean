/-
  show.Expr, show.Type: an expression, a type as text.
-/
import Derived.Test.YtblnmlbkgdncnaaDoorShowI
import Derived.Test.YtblnmlbkgdncnaaDoorDigits
set_option linter.unusedVariables false
set_option linter.unusedSimpArgs false
namespace Go.Proofs.YtblnmlbkgdncnaaDoor
open Go.RowKit

/-- what show.Type answers -/
def showTy (t : Ty) : List UInt8 × Int := if tyForm t ≠ 0 then ([], tyForm t) else (tyText t, 0)
theorem tyText_ne (t : Ty) : tyText t ≠ [] := by
  unfold tyText
  intro h
  by_cases hn : t.nm = []
  · rw [if_pos hn] at h; simp at h
  · rw [if_neg hn] at h; simp at h; exact hn h.2
theorem itoa_ne (n : Int) : Lib.itoa n ≠ [] := by
  unfold Lib.itoa
  split
  · simp
  · intro h
    have := decDigits_pos n.toNat
    rw [h] at this
    simp at this
theorem exText_ne {x : Ex} (h : ExGood x) : exText x ≠ [] := by
  have hf := h.form
  have hk := h.kind
  obtain ⟨k, n, nm, t, d, args⟩ := x
  dsimp only [Ex.k] at hk
  rw [exText]
  unfold exPut
  dsimp only
  by_cases h1 : k = 1
  · rw [if_pos h1]; exact itoa_ne n
  rw [if_neg h1]
  by_cases h2 : k = 2
  · rw [if_pos h2]; simp
  rw [if_neg h2]
  by_cases h3 : k = 3
  · rw [if_pos h3]
    obtain ⟨m, named, ha, -, -, hnm, -⟩ := exForm_ok hf
    rw [h3] at ha
    have hm : named = true := by
      have e : arity 3 = some (0, true) := rfl
      rw [Ex.k, e] at ha
      injection ha with ha; injection ha with _ ha; exact ha.symm
    exact (nameB_len (hnm hm)).2
  rw [if_neg h3]
  by_cases h4 : k = 4
  · rw [if_pos h4]; simp
  rw [if_neg h4]
  by_cases h5 : k = 5
  · rw [if_pos h5]; simp
  rw [if_neg h5]
  by_cases h6 : k = 6
  · rw [if_pos h6]; simp
  rw [if_neg h6]
  by_cases h7 : k = 7
  · rw [if_pos h7]; simp
  rw [if_neg h7]
  by_cases h8 : k = 8
  · rw [if_pos h8]; simp
  rw [if_neg h8]
  by_cases h9 : k = 9
  · rw [if_pos h9]; simp
  rw [if_neg h9]
  simp

set_option maxHeartbeats 4000000 in
theorem stype_any (ty : Ty) (w : World) (GL : LGlobs w) (GG : Globs w) (hty : ty.Ok) :
    Calls Tryd.prog 5 #[ty.val] w fun e w' => e = .returned (.tuple #[.string ⟨(showTy ty).1.toArray⟩, .int .i64 (showTy ty).2]) ∧ Below w.heap.size w w' := by
  obtain ⟨k, nm, n⟩ := ty
  obtain ⟨X, hX⟩ : ∃ X, w.heap.size = X := ⟨_, rfl⟩
  obtain ⟨w1, hw1⟩ : ∃ w1, w.alloc (.cells #[.int .u8 k, .string ⟨nm.toArray⟩, .int .i64 n] 24 (0, 0)) = w1 := ⟨_, rfl⟩
  have hb1 : Below w.heap.size w w1 := by rw [← hw1]; exact (Below.refl _ _).alloc (Nat.le_refl _) _
  have x1 : w1.heap[X]? = some (.cells #[.int .u8 k, .string ⟨nm.toArray⟩, .int .i64 n] 24 (0, 0)) := by rw [← hw1, ← hX]; exact heap_alloc_new w _
  have CT := Lib.hid (tform_lit k nm n hty.nm w1 (GL.below hb1))
  have HN := Lib.hid (And.intro hX hw1)
  have HB1 := Lib.hid hb1
  have HOk := Lib.hid hty
  have HGG := Lib.hid GG
  have HX1 := Lib.hid x1
  have HSh : Hid (showTy ⟨k, nm, n⟩ = if tyForm ⟨k, nm, n⟩ ≠ 0 then ([], tyForm ⟨k, nm, n⟩) else (tyText ⟨k, nm, n⟩, 0)) := Lib.hid rfl
  have hlen : tyForm ⟨k, nm, n⟩ = 0 → (tyText ⟨k, nm, n⟩).length ≤ 50 := fun h => tyText_len h
  generalize showTy ⟨k, nm, n⟩ = R at *
  obtain ⟨T, hT⟩ : ∃ T, tyText ⟨k, nm, n⟩ = T := ⟨_, rfl⟩
  have hTn : T ≠ [] := by rw [← hT]; exact tyText_ne _
  rw [hT] at HSh hlen
  have HT := Lib.hid (And.intro hT hTn)
  clear hX hw1 hb1 x1 GL GG hty hT hTn
  by_cases her : tyForm ⟨k, nm, n⟩ = 0
  · rw [if_neg (not_not_intro her)] at HSh
    obtain rfl : R = (T, 0) := HSh.out
    rw [her] at CT
    have hl := hlen her
    clear her hlen
    go_enter Tryd.func5, Tryd.ntmps5
    go_wp2_with fail
    simp only [HN.out.1, HN.out.2]
    refine CT.out.mono ?_
    rintro e wB ⟨rfl, hbB⟩
    obtain ⟨Bb, hBb⟩ : ∃ Bb, wB.heap.size = Bb := ⟨_, rfl⟩
    obtain ⟨wA, hwA⟩ : ∃ wA, wB.alloc (.cells #[.pointer none, .slice none 0 0] 54 (0, 0)) = wA := ⟨_, rfl⟩
    have hbA : Below wB.heap.size wB wA := by rw [← hwA]; exact (Below.refl _ _).alloc (Nat.le_refl _) _
    have OA : Hid (TxOut Bb wB [] wA wA) := Lib.hid (TxOut.refl ⟨by rw [← hBb, ← hwA]; exact Writes.fresh wB, by rw [← hBb]; exact hbA⟩)
    have HwB : Hid (Below w.heap.size w wB) := Lib.hid (HB1.out.trans (hbB.mono HB1.out.size))
    have HG : Hid (∀ W', Below Bb wB W' → Globs W') := Lib.hid fun W' hb => (HGG.out.below HwB.out).below (by rw [hBb]; exact hb)
    have HZl : Hid (∀ W', Below Bb wB W' → Below w.heap.size w W') := Lib.hid fun W' hb => HwB.out.trans (hb.mono (by rw [← hBb]; exact HwB.out.size))
    have HBBb : Hid (w.heap.size ≤ Bb) := Lib.hid (by rw [← hBb]; exact HwB.out.size)
    have rowB := (hbB.block X (lt_of_blk HX1.out)).trans HX1.out
    have hXlt : X < wB.heap.size := lt_of_blk rowB
    have HNA := Lib.hid (And.intro hBb hwA)
    have e0 : (wB.alloc (.cells #[.pointer none, .slice none 0 0] 54 (0, 0))).cell? ⟨X, 0, none⟩ = some (.int .u8 k) := (World.cell?_alloc_lt wB _ ⟨X, 0, none⟩ hXlt).trans (cell_at rowB 0)
    have e1 : (wB.alloc (.cells #[.pointer none, .slice none 0 0] 54 (0, 0))).cell? ⟨X, 1, none⟩ = some (.string ⟨nm.toArray⟩) := (World.cell?_alloc_lt wB _ ⟨X, 1, none⟩ hXlt).trans (cell_at rowB 1)
    have e2 : (wB.alloc (.cells #[.pointer none, .slice none 0 0] 54 (0, 0))).cell? ⟨X, 2, none⟩ = some (.int .i64 n) := (World.cell?_alloc_lt wB _ ⟨X, 2, none⟩ hXlt).trans (cell_at rowB 2)
    clear hbB hBb hwA hbA CT rowB
    go_wp2_with fail
    simp only [HNA.out.1, HNA.out.2]
    clear e0 e1 e2 hXlt
    refine (styp_any Bb wB [] ⟨k, nm, n⟩ wA OA.out.st (HG.out _ OA.out.st.bel) HOk.out (by rw [HT.out.1]; simp; omega)).mono ?_
    rintro e w3 ⟨rfl, hO⟩
    rw [HT.out.1, List.nil_append] at hO
    have O3 := Lib.hid (OA.out.trans hO)
    clear hO
    go_wp2_with fail
    refine (wtext_any Bb Bb T w3 O3.out.st.wr HT.out.2).mono ?_
    rintro e w4 ⟨rfl, hb4⟩
    have HZ := Lib.hid (HZl.out _ (O3.out.st.bel.trans hb4))
    clear hb4
    go_wp2_with fail
    go_ret2
    exact ⟨rfl, HZ.out⟩
  · rw [if_pos her] at HSh
    obtain rfl : R = ([], tyForm ⟨k, nm, n⟩) := HSh.out
    have hn2 : (tyForm ⟨k, nm, n⟩ == 0) = false := by simpa using her
    clear her hlen HSh
    generalize tyForm ⟨k, nm, n⟩ = er at *
    go_enter Tryd.func5, Tryd.ntmps5
    go_wp2_with fail
    simp only [HN.out.1, HN.out.2]
    refine CT.out.mono ?_
    rintro e w2 ⟨rfl, hb2⟩
    have HZ := Lib.hid (HB1.out.trans (hb2.mono HB1.out.size))
    clear hb2 CT
    go_wp2_with fail
    go_ret2
    exact ⟨rfl, HZ.out⟩

set_option maxHeartbeats 4000000 in
theorem sshowex_any (x : Ex) (w : World) (GL : LGlobs w) (GG : Globs w) (hI : ExIn w w.heap.size x) :
    Calls Tryd.prog 10 #[x.val] w fun e w' => e = .returned (.tuple #[.string ⟨(showEx x).1.toArray⟩, .int .i64 (showEx x).2]) ∧ Below w.heap.size w w' := by
  obtain ⟨X, hX⟩ : ∃ X, w.heap.size = X := ⟨_, rfl⟩
  obtain ⟨w1, hw1⟩ : ∃ w1, w.alloc (exObj x) = w1 := ⟨_, rfl⟩
  have hb1 : Below w.heap.size w w1 := by rw [← hw1]; exact (Below.refl _ _).alloc (Nat.le_refl _) _
  have x1 : w1.heap[X]? = some (exObj x) := by rw [← hw1, ← hX]; exact heap_alloc_new w _
  have CK := Lib.hid (checkexpr_any w.heap.size x w1 ((GlB.of GL).below hb1) (hI.keep hb1 (Nat.le_refl _)))
  have HN := Lib.hid (And.intro hX hw1)
  have HB1 := Lib.hid hb1
  have HI := Lib.hid hI
  have HGG := Lib.hid GG
  have HX1 := Lib.hid x1
  have HSh : Hid (showEx x = if exFault x ≠ 0 then ([], exFault x) else if 65536 < (exText x).length then ([], 3) else (exText x, 0)) := Lib.hid rfl
  have HGd : Hid (exFault x = 0 → ExGood x ∧ (exText x).length ≤ 70000) := Lib.hid fun h => by
    unfold exFault at h
    cases hc : chkEx x 1 0 with
    | error e => rw [hc] at h; exact absurd h (chkEx_ne x 1 0 e hc)
    | ok m =>
      have h1 := exText_len x 1 0 m hI.num hc
      have h2 := chkEx_ok x 1 0 m hc
      exact ⟨⟨1, 0, m, hc⟩, by omega⟩
  generalize showEx x = R at *
  clear hX hw1 hb1 x1 GL GG hI
  by_cases her : exFault x = 0
  · rw [if_neg (not_not_intro her)] at HSh
    obtain ⟨hgd, hl⟩ := HGd.out her
    rw [her] at CK
    have HTn := Lib.hid (exText_ne hgd)
    have HGx := Lib.hid hgd
    clear her HGd hgd
    go_enter Tryd.func10, Tryd.ntmps10
    go_wp2_with fail
    simp only [HN.out.1, HN.out.2]
    refine CK.out.mono ?_
    rintro e wB ⟨rfl, hbB⟩
    obtain ⟨Bb, hBb⟩ : ∃ Bb, wB.heap.size = Bb := ⟨_, rfl⟩
    obtain ⟨wA, hwA⟩ : ∃ wA, wB.alloc (.cells #[.pointer none, .slice none 0 0] 54 (0, 0)) = wA := ⟨_, rfl⟩
    have hbA : Below wB.heap.size wB wA := by rw [← hwA]; exact (Below.refl _ _).alloc (Nat.le_refl _) _
    have OA : Hid (TxOut Bb wB [] wA wA) := Lib.hid (TxOut.refl ⟨by rw [← hBb, ← hwA]; exact Writes.fresh wB, by rw [← hBb]; exact hbA⟩)
    have HwB : Hid (Below w.heap.size w wB) := Lib.hid (HB1.out.trans (hbB.mono HB1.out.size))
    have HG : Hid (∀ W', Below Bb wB W' → Globs W') := Lib.hid fun W' hb => (HGG.out.below HwB.out).below (by rw [hBb]; exact hb)
    have HZl : Hid (∀ W', Below Bb wB W' → Below w.heap.size w W') := Lib.hid fun W' hb => HwB.out.trans (hb.mono (by rw [← hBb]; exact HwB.out.size))
    have HBBb : Hid (w.heap.size ≤ Bb) := Lib.hid (by rw [← hBb]; exact HwB.out.size)
    have rowB := (hbB.block X (lt_of_blk HX1.out)).trans HX1.out
    have hXlt : X < wB.heap.size := lt_of_blk rowB
    have HNA := Lib.hid (And.intro hBb hwA)
    have e0 : (wB.alloc (.cells #[.pointer none, .slice none 0 0] 54 (0, 0))).cell? ⟨X, 0, none⟩ = some (.int .u8 x.k) := (World.cell?_alloc_lt wB _ ⟨X, 0, none⟩ hXlt).trans (cell_at rowB 0)
    have e1 : (wB.alloc (.cells #[.pointer none, .slice none 0 0] 54 (0, 0))).cell? ⟨X, 1, none⟩ = some (.int .i64 x.n) := (World.cell?_alloc_lt wB _ ⟨X, 1, none⟩ hXlt).trans (cell_at rowB 1)
    have e2 : (wB.alloc (.cells #[.pointer none, .slice none 0 0] 54 (0, 0))).cell? ⟨X, 2, none⟩ = some (.string ⟨x.nm.toArray⟩) := (World.cell?_alloc_lt wB _ ⟨X, 2, none⟩ hXlt).trans (cell_at rowB 2)
    have e3 : (wB.alloc (.cells #[.pointer none, .slice none 0 0] 54 (0, 0))).cell? ⟨X, 3, none⟩ = some (.int .u8 x.t.k) := (World.cell?_alloc_lt wB _ ⟨X, 3, none⟩ hXlt).trans (cell_at rowB 3)
    have e4 : (wB.alloc (.cells #[.pointer none, .slice none 0 0] 54 (0, 0))).cell? ⟨X, 4, none⟩ = some (.string ⟨x.t.nm.toArray⟩) := (World.cell?_alloc_lt wB _ ⟨X, 4, none⟩ hXlt).trans (cell_at rowB 4)
    have e5 : (wB.alloc (.cells #[.pointer none, .slice none 0 0] 54 (0, 0))).cell? ⟨X, 5, none⟩ = some (.int .i64 x.t.n) := (World.cell?_alloc_lt wB _ ⟨X, 5, none⟩ hXlt).trans (cell_at rowB 5)
    have e6 : (wB.alloc (.cells #[.pointer none, .slice none 0 0] 54 (0, 0))).cell? ⟨X, 6, none⟩ = some (.slice x.d.a x.args.length x.d.c) := (World.cell?_alloc_lt wB _ ⟨X, 6, none⟩ hXlt).trans (cell_at rowB 6)
    have CX := sexpr_any Bb wB HG _ x (Nat.le_refl _) (HI.out.keep HwB.out HBBb.out) HGx.out [] wA OA.out.st (by simp; omega)
    clear hbB hBb hwA hbA CK rowB
    go_wp2_with fail
    simp only [HNA.out.1, HNA.out.2]
    clear e0 e1 e2 e3 e4 e5 e6 hXlt
    generalize exText x = T at *
    refine CX.mono ?_
    rintro e w3 ⟨rfl, hO⟩
    rw [List.nil_append] at hO
    have O3 := Lib.hid (OA.out.trans hO)
    clear hO CX
    have CS := sshort_any Bb wB T w3 O3.out.st HTn.out (by omega)
    by_cases hbig : 65536 < T.length
    · rw [if_pos hbig] at CS HSh
      obtain rfl : R = ([], 3) := HSh.out
      clear hbig hl
      go_wp2_with fail
      refine CS.mono ?_
      rintro e wz ⟨rfl, hbz⟩
      have HZ := Lib.hid (HZl.out _ hbz)
      clear hbz CS
      go_wp2_with fail
      go_ret2
      exact ⟨rfl, HZ.out⟩
    · rw [if_neg hbig] at CS HSh
      obtain rfl : R = (T, 0) := HSh.out
      clear hbig hl
      go_wp2_with fail
      refine CS.mono ?_
      rintro e wz ⟨rfl, hbz⟩
      have HZ := Lib.hid (HZl.out _ hbz)
      clear hbz CS
      go_wp2_with fail
      go_ret2
      exact ⟨rfl, HZ.out⟩
  · rw [if_pos her] at HSh
    obtain rfl : R = ([], exFault x) := HSh.out
    have hn2 : (exFault x == 0) = false := by simpa using her
    clear her HGd HSh HI
    generalize exFault x = er at *
    go_enter Tryd.func10, Tryd.ntmps10
    go_wp2_with fail
    simp only [HN.out.1, HN.out.2]
    refine CK.out.mono ?_
    rintro e w2 ⟨rfl, hb2⟩
    have HZ := Lib.hid (HB1.out.trans (hb2.mono HB1.out.size))
    clear hb2 CK
    go_wp2_with fail
    go_ret2
    exact ⟨rfl, HZ.out⟩
end Go.Proofs.YtblnmlbkgdncnaaDoor
