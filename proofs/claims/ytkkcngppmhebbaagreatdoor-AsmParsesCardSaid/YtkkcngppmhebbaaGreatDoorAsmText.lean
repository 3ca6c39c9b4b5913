/-
  asm.Text walked: the text of any instructions, or the refusal.
-/
import Derived.Test.YtkkcngppmhebbaaGreatDoorAsmTextP
import Derived.Test.YtkkcngppmhebbaaGreatDoorAsmBuild
import Derived.Test.YtkkcngppmhebbaaGreatDoorShelfB
import Derived.Lib.OthersKept
set_option linter.unusedVariables false
set_option linter.unusedSimpArgs false
namespace Go.Proofs.YtkkcngppmhebbaaGreatDoor
open Go.RowKit

/-- the state of the text's writing: what the builder holds, and what lies below it -/
structure TxSt (Bb : Nat) (wB : World) (t : List UInt8) (W : World) : Prop where
  wr : Writes Bb Bb t W
  bel : Below Bb wB W
theorem TxSt.lt {Bb : Nat} {wB W : World} {t : List UInt8} (h : TxSt Bb wB t W) : Bb < W.heap.size := h.wr.lt
theorem TxSt.keep {Bb : Nat} {wB W w' : World} {t : List UInt8} (h : TxSt Bb wB t W) (hk : Below W.heap.size W w') : TxSt Bb wB t w' :=
  ⟨h.wr.keep (hk.block Bb h.lt) (fun k hr => hk.block k (h.wr.row_lt hr).2.1), h.bel.trans (hk.mono (Nat.le_of_lt h.lt))⟩
theorem TxSt.alloc {Bb : Nat} {wB W : World} {t : List UInt8} (h : TxSt Bb wB t W) (o : Obj) : TxSt Bb wB t (W.alloc o) := h.keep ((Below.refl _ _).alloc (Nat.le_refl _) o)
theorem TxSt.iter {Bb : Nat} {wB W : World} {t : List UInt8} (h : TxSt Bb wB t W) {k : Nat} {s : ByteArray} {pos : Nat} (hk : W.heap[k]? = some (.stringIter s pos)) (hne : k ≠ Bb) (hle : Bb ≤ k) (pos' : Nat) : TxSt Bb wB t (W.iterAt k s pos') :=
  ⟨h.wr.keep (Lib.iterAt_other _ _ _ _ _ (Ne.symm hne)) (fun j hr => Lib.iterAt_other _ _ _ _ _ (fun e => by
    subst e
    obtain ⟨-, -, -, cs, fz, h3, -⟩ := h.wr.row_lt hr
    rw [hk] at h3; cases h3)), Lib.below_iterAt h.bel hle _ _⟩
theorem put_any (Bb : Nat) (wB : World) (t s : List UInt8) (W : World) (h : TxSt Bb wB t W) (hl : t.length + s.length ≤ 140737488355328) :
    Calls Tryz.prog 171 #[.pointer (some ⟨Bb, 0, none⟩), .string ⟨s.toArray⟩] W fun e w' => e = .returned (.tuple #[.int .i64 s.length, .nilIface]) ∧ TxSt Bb wB (t ++ s) w' ∧ Kept (OwnB W Bb) W w' :=
  (wstr_any Bb Bb t s W h.wr hl (Nat.le_of_lt h.lt)).mono fun _ _ ⟨h1, h2, h3, h4⟩ => ⟨h1, ⟨h2, h.bel.trans h3⟩, h4⟩
theorem blk_kept {S : Nat → Prop} {w w' : World} (h : Kept S w w') {k : Nat} {o : Obj} (hk : w.heap[k]? = some o) (hs : ¬ S k) : w'.heap[k]? = some o :=
  (h.block k (by rcases Nat.lt_or_ge k w.heap.size with h | h; exact h; rw [Array.getElem?_eq_none h] at hk; cases hk) hs).trans hk
/-- a block that holds something else than bytes is not the builder's -/
theorem TxSt.not {Bb : Nat} {wB W : World} {t : List UInt8} (h : TxSt Bb wB t W) {k : Nat} {o : Obj} (hk : W.heap[k]? = some o) (ho : ∀ cs fz, o ≠ .cells cs 5 fz) (hne : k ≠ Bb) : ¬ OwnB W Bb k := fun hh => by
  rcases hh with hh | hh
  · exact hne hh
  · exact h.wr.row_ne (.inl fun cs fz e => by rw [hk] at e; injection e with e; exact ho cs fz e) hh
/-- .. nor is one of fewer bytes -/
theorem TxSt.not_len {Bb : Nat} {wB W : World} {t : List UInt8} (h : TxSt Bb wB t W) {k : Nat} {cs : Array Value} {ty : TypeId} {fz : Nat × Nat} (hk : W.heap[k]? = some (.cells cs ty fz)) (hl : cs.size < t.length) : rowOf W Bb ≠ some k :=
  h.wr.row_ne (.inr (.inl ⟨cs, ty, fz, hk, hl⟩))

/-- the state within an instruction's parts: the box, the registers' row, the iterator -/
structure PtSt (Bb Zo Zr Zi : Nat) (wB : World) (x : Cmd) (ps : List UInt8) (pos : Nat) (t : List UInt8) (W : World) : Prop where
  st : TxSt Bb wB t W
  o : W.heap[Zo]? = some (.cells #[.int .u8 x.k, .int .u8 x.c, .int .u8 x.a, .int .u8 x.b, .int .u8 x.d, .int .i64 x.n] 79 (0, 0))
  r : W.heap[Zr]? = some (.cells #[.int .u8 x.a, .int .u8 x.b, .int .u8 x.d] 5 (0, 0))
  i : W.heap[Zi]? = some (.stringIter ⟨ps.toArray⟩ pos)
  nr : rowOf W Bb ≠ some Zr
theorem PtSt.write {Bb Zo Zr Zi : Nat} {wB : World} {o : Cmd} {ps : List UInt8} {pos : Nat} {t s : List UInt8} {W w' : World} (h : PtSt Bb Zo Zr Zi wB o ps pos t W) (h1 : TxSt Bb wB (t ++ s) w') (hk : Kept (OwnB W Bb) W w') (hl : 3 < (t ++ s).length) (ho : Bb < Zo) (hr : Bb < Zr) (hi : Bb < Zi) :
    PtSt Bb Zo Zr Zi wB o ps pos (t ++ s) w' := by
  have hr' := blk_kept hk h.r (fun hh => by rcases hh with hh | hh; omega; exact h.nr hh)
  exact ⟨h1, blk_kept hk h.o (h.st.not h.o (fun cs fz e => by injection e with _ e; exact absurd e (by decide)) (by omega)), hr', blk_kept hk h.i (h.st.not h.i (fun cs fz e => by cases e) (by omega)), h1.not_len hr' (by simpa using hl)⟩
theorem PtSt.next {Bb Zo Zr Zi : Nat} {wB : World} {o : Cmd} {ps : List UInt8} {pos : Nat} {t : List UInt8} {W : World} (h : PtSt Bb Zo Zr Zi wB o ps pos t W) (ho : Bb < Zo) (hr : Bb < Zr) (hi : Bb < Zi) (pos' : Nat) : PtSt Bb Zo Zr Zi wB o ps pos' t (W.iterAt Zi ⟨ps.toArray⟩ pos') := by
  have ne1 : Zo ≠ Zi := fun e => by have := h.o; rw [e, h.i] at this; cases this
  have ne2 : Zr ≠ Zi := fun e => by have := h.r; rw [e, h.i] at this; cases this
  refine ⟨h.st.iter h.i (by omega) (by omega) pos', (Lib.iterAt_other _ _ _ _ _ ne1).trans h.o, (Lib.iterAt_other _ _ _ _ _ ne2).trans h.r, Lib.iterAt_heap _ _ _ _ _ h.i, ?_⟩
  have : rowOf (W.iterAt Zi ⟨ps.toArray⟩ pos') Bb = rowOf W Bb := by
    unfold rowOf World.cell?
    rw [show (⟨Bb, 1, none⟩ : Addr).block = Bb from rfl, Lib.iterAt_other _ _ _ _ _ (by omega : Bb ≠ Zi)]
  rw [this]; exact h.nr

theorem end_txt {a b : List UInt8 × Int} (h : a = b) : Ending.returned (.tuple #[.string ⟨a.1.toArray⟩, .int .i64 a.2]) = .returned (.tuple #[.string ⟨b.1.toArray⟩, .int .i64 b.2]) := by rw [h]
theorem put_any' (Bb : Nat) (wB : World) (t s : List UInt8) (S : ByteArray) (hS : S = ⟨s.toArray⟩) (W : World) (h : TxSt Bb wB t W) (hl : t.length + s.length ≤ 140737488355328) :
    Calls Tryz.prog 171 #[.pointer (some ⟨Bb, 0, none⟩), .string S] W fun e w' => e = .returned (.tuple #[.int .i64 s.length, .nilIface]) ∧ TxSt Bb wB (t ++ s) w' ∧ Kept (OwnB W Bb) W w' := by
  subst hS
  exact put_any Bb wB t s W h hl
theorem PtSt.below {Bb Zo Zr Zi : Nat} {wB : World} {x : Cmd} {ps : List UInt8} {pos : Nat} {t : List UInt8} {W w' : World} (h : PtSt Bb Zo Zr Zi wB x ps pos t W) (hb : Below W.heap.size W w') : PtSt Bb Zo Zr Zi wB x ps pos t w' :=
  ⟨h.st.keep hb, blk_below h.o hb, blk_below h.r hb, blk_below h.i hb, by
    have : rowOf w' Bb = rowOf W Bb := by unfold rowOf; rw [hb.cell (p := ⟨Bb, 1, none⟩) h.st.lt]
    rw [this]; exact h.nr⟩
theorem cat_b (a b : List UInt8) : (⟨a.toArray⟩ : ByteArray) ++ ⟨b.toArray⟩ = ⟨(a ++ b).toArray⟩ := by
  apply ByteArray.ext
  simp

theorem itoa_any (n : Int) (h1 : -9223372036854775808 ≤ n) (h2 : n ≤ 9223372036854775807) (w : World) (G : Globs w) :
    Calls Tryz.prog 172 #[.int .i64 n] w fun e w' => e = .returned (.string ⟨(Lib.itoa n).toArray⟩) ∧ Below w.heap.size w w' :=
  (Tryz.strconv_Itoa n h1 h2 w G.tab).mono fun e w' ⟨he, k, os, hw⟩ => ⟨he, by rw [hw]; exact below_grow _ _ _⟩
set_option maxHeartbeats 16000000 in
set_option maxRecDepth 100000 in
theorem atext_any (A : Option Addr) (c : Nat) (l : List Cmd) (w : World) (G : AGlobs w) (hl : CmdsAt w w.heap.size A l) (hwf : ∀ x ∈ l, x.Wf) (hn : l.length ≤ 140737488355328) :
    Calls Tryz.prog 102 #[.slice A l.length c] w fun e w' => e = .returned (.tuple #[.string ⟨(textA l).1.toArray⟩, .int .i64 (textA l).2]) ∧ Below w.heap.size w w' := by
  obtain ⟨R, hR⟩ : ∃ R, textA l = R := ⟨_, rfl⟩
  rw [hR]
  have HE := Lib.hid (encode_any A c l w hl hn)
  by_cases hbig : l.length > 262144
  · have F : Hid ((([] : List UInt8), (3 : Int)) = R) := Lib.hid (by rw [← hR]; unfold textA; rw [if_pos hbig])
    rw [if_pos hbig] at HE
    clear hR hbig hl hwf G
    go_enter Tryz.func102, Tryz.ntmps102
    go_wp2_with fail
    refine HE.out.mono ?_
    rintro e w1 ⟨⟨s, rfl⟩, hb1⟩
    go_wp2_with fail
    go_ret2
    exact ⟨end_txt F.out, hb1⟩
  · rw [if_neg hbig] at HE
    cases hall : l.all okV
    · have F : Hid ((([] : List UInt8), (1 : Int)) = R) := Lib.hid (by rw [← hR]; unfold textA; rw [if_neg hbig, hall]; rfl)
      rw [hall] at HE
      simp only [Bool.false_eq_true, if_false] at HE
      clear hR hbig hl hwf G hall
      go_enter Tryz.func102, Tryz.ntmps102
      go_wp2_with fail
      refine HE.out.mono ?_
      rintro e w1 ⟨⟨s, rfl⟩, hb1⟩
      go_wp2_with fail
      go_ret2
      exact ⟨end_txt F.out, hb1⟩
    · have HR : Hid ((match textGo [] l with | some t => (t, 0) | none => ([], 3)) = R) := Lib.hid (by rw [← hR]; unfold textA; rw [if_neg hbig, hall]; rfl)
      rw [hall] at HE
      simp only [if_true] at HE
      have HALL := Lib.hid (fun x (hx : x ∈ l) => And.intro (List.all_eq_true.1 hall x hx) (hwf x hx))
      have CS := Lib.hid shapes_any
      have CC := Lib.hid calcs_any
      have HG := Lib.hid G
      have HL := Lib.hid hl
      clear hR hall hl hwf G
      obtain ⟨H, hH⟩ : ∃ H, w.heap.size = H := ⟨_, rfl⟩
      rw [hH] at HE HL
      go_enter Tryz.func102, Tryz.ntmps102
      go_wp2_with fail
      refine HE.out.mono ?_
      rintro e w1 ⟨⟨s, rfl⟩, hb1⟩
      have hH1 : H ≤ w1.heap.size := by rw [← hH]; exact hH ▸ hb1.size
      clear HE
      go_wp2_with fail
      refine (CS.out _).mono ?_
      rintro e w2 ⟨rfl, hw2⟩
      have hS2 : w2.heap[w1.heap.size]? = some (.cells shapeRow.toArray 103 (0, 0)) := by rw [hw2]; exact heap_alloc_new w1 _
      have hb2 : Below w1.heap.size w1 w2 := by rw [hw2]; exact (Below.refl _ _).alloc (Nat.le_refl _) _
      have hG2 := Lib.hid ((HG.out.below (by rw [hH]; exact hb1)).below hb2)
      clear hw2
      go_wp2_with fail
      refine (CC.out _ hG2.out).mono ?_
      rintro e w3 ⟨rfl, hw3⟩
      have hN3 : w3.heap[w2.heap.size]? = some (.cells calcCells.toArray 9 (0, 0)) := by rw [hw3]; exact heap_alloc_new w2 _
      have hb3 : Below w2.heap.size w2 w3 := by rw [hw3]; exact (Below.refl _ _).alloc (Nat.le_refl _) _
      clear hw3 hG2 CC CS
      obtain ⟨wB, hwB⟩ : ∃ wB, w3.alloc (.cells #[.pointer none, .slice none 0 0] 326 (0, 0)) = wB := ⟨_, rfl⟩
      have hbB : Below w3.heap.size w3 wB := by rw [← hwB]; exact (Below.refl _ _).alloc (Nat.le_refl _) _
      have hS : Hid (wB.heap[w1.heap.size]? = some (.cells shapeRow.toArray 103 (0, 0))) := Lib.hid (blk_below (blk_below hS2 hb3) hbB)
      have hN : Hid (wB.heap[w2.heap.size]? = some (.cells calcCells.toArray 9 (0, 0))) := Lib.hid (blk_below hN3 hbB)
      have hS0 : w1.heap.size < w3.heap.size := Nat.lt_of_lt_of_le (Array.getElem?_eq_some_iff.1 hS2).1 hb3.size
      have hN0 : w2.heap.size < w3.heap.size := (Array.getElem?_eq_some_iff.1 hN3).1
      have hall := (hb1.trans (hb2.mono hH1)).trans ((hb3.mono (Nat.le_trans hH1 hb2.size)).trans (hbB.mono (Nat.le_trans (Nat.le_trans hH1 hb2.size) hb3.size)))
      have HB0 : Hid (Below H w wB) := Lib.hid hall
      have hHB : H ≤ w3.heap.size := by omega
      have HLB : Hid (∀ W, Below w3.heap.size wB W → CmdsAt W H A l) := Lib.hid fun W hb => (HL.out.below hall (Nat.le_refl _)).below hb hHB
      have HGB : Hid (∀ W, Below w3.heap.size wB W → Globs W) := Lib.hid fun W hb => (HG.out.g.below (by rw [hH]; exact hall.trans (hb.mono hHB)))
      have T0 : Hid (TxSt w3.heap.size wB [] wB) := Lib.hid ⟨by rw [← hwB]; exact Writes.fresh w3, Below.refl _ _⟩
      clear hb1 hb2 hb3 hbB hS2 hN3 hall HL hH1 HG
      obtain ⟨S0, hS0e⟩ : ∃ S0, w1.heap.size = S0 := ⟨_, rfl⟩
      obtain ⟨N0, hN0e⟩ : ∃ N0, w2.heap.size = N0 := ⟨_, rfl⟩
      obtain ⟨Bb, hBbe⟩ : ∃ Bb, w3.heap.size = Bb := ⟨_, rfl⟩
      simp only [hS0e, hN0e, hBbe] at hS hN hS0 hN0 hHB HLB HGB T0 ⊢
      go_wp2_with fail
      clear hwB hS0e hN0e hBbe
      go_loopw [27] (fun i wr => ∃ (j : Nat) (t : List UInt8), i = .int .i64 j ∧ j ≤ l.length ∧ t.length ≤ 65536 ∧ Hid (TxSt Bb wB t wr) ∧ Hid (textGo t (l.drop j) = textGo [] l)) (fun i _ => l.length - (intOf i).toNat)
      case atStart => exact ⟨0, [], rfl, by omega, by simp, T0, Lib.hid (by rw [List.drop_zero])⟩
      case round =>
        obtain ⟨j, t, rfl, hj, htl, hT, hGo⟩ := hrel
        have hBl := hT.out.lt
        by_cases hlt : j < l.length
        · obtain ⟨b, off, rfl, hbl, hc⟩ := HLB.out _ hT.out.bel (by rintro rfl; simp at hlt)
          have hx := hc j _ (List.getElem?_eq_getElem hlt)
          obtain ⟨hok, hxw⟩ := HALL.out _ (List.getElem_mem hlt)
          have hGo2 : Hid (textGo t (l[j] :: l.drop (j + 1)) = textGo [] l) := Lib.hid (by rw [← List.drop_eq_getElem_cons hlt]; exact hGo.out)
          clear hc hGo HALL
          generalize l[j] = x at *
          obtain ⟨f, hf, -⟩ := okV_all hok
          have hst := textGo_step t x (l.drop (j + 1)) f hf
          have hPok := Lib.hid (PartOk.start hok hxw.c.1)
          have hpl := partGo_len hxw (partsV x.k) 0
          have hpl2 := partsV_len x.k
          have hkl := kindW_len x.k
          have hk3 := kindW_min hf
          have hXW := Lib.hid hxw
          obtain ⟨K, hK, hK1, hK2⟩ : ∃ K : Nat, x.k = (K : Int) ∧ 1 ≤ K ∧ K ≤ 15 := by
            rcases formV_cases x.k with h | ⟨h0, -⟩
            · exact ⟨x.k.toNat, by omega, by omega, by omega⟩
            · rw [h0] at hf; cases hf
          have e0 := shape_at K hK1 hK2 1 (by decide)
          have e1 := shape_at K hK1 hK2 2 (by decide)
          have e2 := shape_at K hK1 hK2 0 (by decide)
          have hS2 := hT.out.bel.block S0 (by omega)
          rw [hS.out] at hS2
          have s0 := cell_of hS2 ((K - 1) * 3)
          have s1 := cell_of hS2 ((K - 1) * 3 + 1)
          have s2 := cell_of hS2 ((K - 1) * 3 + 2)
          rw [List.getElem?_toArray] at s0 s1 s2
          rw [e0] at s1
          rw [e1] at s2
          rw [Nat.add_zero] at e2
          rw [e2] at s0
          simp only [shapeCells, List.getElem?_cons_zero, List.getElem?_cons_succ] at s0 s1 s2
          rw [← hK] at s0 s1 s2
          have x0 := hx.c0
          have x1 := hx.c1
          have x2 := hx.c2
          have x3 := hx.c3
          have x4 := hx.c4
          have x5 := hx.c5
          have hwr1 : IntKind.u8.wrap (x.k - 1) = ((K - 1 : Nat) : Int) := by rw [IntKind.wrap_u8]; omega
          have p1 : (j : Int) < (l.length : Int) := by omega
          have p2 : (0 : Int) ≤ (j : Int) := Int.natCast_nonneg _
          have p3 : ((K - 1 : Nat) : Int) < 15 := by omega
          have p4 : (0 : Int) ≤ ((K - 1 : Nat) : Int) := Int.natCast_nonneg _
          obtain ⟨xk, xc, xa, xb, xd, xn⟩ := x
          dsimp only at hK hst hPok hpl hpl2 hkl s0 s1 s2 x0 x1 x2 x3 x4 x5 hwr1
          subst hK
          generalize hwd : kindW (K : Int) = wd at *
          generalize hps : partsV (K : Int) = ps at *
          have HST := Lib.hid hst
          obtain ⟨Zo, hZo⟩ : ∃ Zo, wr.heap.size = Zo := ⟨_, rfl⟩
          obtain ⟨w4, hw4⟩ : ∃ w4, wr.alloc (.cells #[.int .u8 K, .int .u8 xc, .int .u8 xa, .int .u8 xb, .int .u8 xd, .int .i64 xn] 79 (0, 0)) = w4 := ⟨_, rfl⟩
          have hb4 : Below wr.heap.size wr w4 := by rw [← hw4]; exact (Below.refl _ _).alloc (Nat.le_refl _) _
          have o4 : w4.heap[Zo]? = some (.cells #[.int .u8 K, .int .u8 xc, .int .u8 xa, .int .u8 xb, .int .u8 xd, .int .i64 xn] 79 (0, 0)) := by rw [← hw4, ← hZo]; exact heap_alloc_new wr _
          have T4 := hT.out.keep hb4
          obtain ⟨Zs, hZs⟩ : ∃ Zs, w4.heap.size = Zs := ⟨_, rfl⟩
          obtain ⟨w5, hw5⟩ : ∃ w5, w4.alloc (.cells #[.int .u8 K, .string ⟨wd.toArray⟩, .string ⟨ps.toArray⟩] 103 (0, 0)) = w5 := ⟨_, rfl⟩
          have hb5 : Below w4.heap.size w4 w5 := by rw [← hw5]; exact (Below.refl _ _).alloc (Nat.le_refl _) _
          have s5 : w5.heap[Zs]? = some (.cells #[.int .u8 K, .string ⟨wd.toArray⟩, .string ⟨ps.toArray⟩] 103 (0, 0)) := by rw [← hw5, ← hZs]; exact heap_alloc_new w4 _
          have HT5 := Lib.hid (T4.keep hb5)
          have HO5 := Lib.hid (blk_below o4 hb5)
          have HS5 := Lib.hid s5
          have hZoB : Bb < Zo := by omega
          have hZsB : Bb < Zs := by have := hb4.size; omega
          replace s0 := (hb4.cell (p := ⟨S0, (K - 1) * 3, none⟩) (by show S0 < wr.heap.size; omega)).trans s0
          replace s1 := (hb4.cell (p := ⟨S0, (K - 1) * 3 + 1, none⟩) (by show S0 < wr.heap.size; omega)).trans s1
          replace s2 := (hb4.cell (p := ⟨S0, (K - 1) * 3 + 2, none⟩) (by show S0 < wr.heap.size; omega)).trans s2
          have z0 := cell_of o4 0
          have z1 := cell_of s5 1
          simp only [List.getElem?_toArray, List.getElem?_cons_zero, List.getElem?_cons_succ] at z0 z1
          clear hx hS2 e0 e1 e2 hf hok hxw hwd hps hst hb4 hb5 o4 s5 T4 hT
          go_wp2_with fail
          refine (put_any Bb wB t wd w5 HT5.out (by omega)).mono ?_
          rintro e w6 ⟨rfl, hT6, hK6⟩
          have o6 := blk_kept hK6 HO5.out (HT5.out.not HO5.out (fun cs fz e => by injection e with _ e; exact absurd e (by decide)) (by omega))
          have s6 := blk_kept hK6 HS5.out (HT5.out.not HS5.out (fun cs fz e => by injection e with _ e; exact absurd e (by decide)) (by omega))
          have hZo6 : Zo < w6.heap.size := (Array.getElem?_eq_some_iff.1 o6).1
          obtain ⟨Zr, hZr⟩ : ∃ Zr, w6.heap.size = Zr := ⟨_, rfl⟩
          obtain ⟨w7, hw7⟩ : ∃ w7, w6.alloc (.cells #[.int .u8 xa, .int .u8 xb, .int .u8 xd] 5 (0, 0)) = w7 := ⟨_, rfl⟩
          have hb7 : Below w6.heap.size w6 w7 := by rw [← hw7]; exact (Below.refl _ _).alloc (Nat.le_refl _) _
          have r7 : w7.heap[Zr]? = some (.cells #[.int .u8 xa, .int .u8 xb, .int .u8 xd] 5 (0, 0)) := by rw [← hw7, ← hZr]; exact heap_alloc_new w6 _
          obtain ⟨Zi, hZi⟩ : ∃ Zi, w7.heap.size = Zi := ⟨_, rfl⟩
          obtain ⟨w8, hw8⟩ : ∃ w8, w7.iter ⟨ps.toArray⟩ 0 = w8 := ⟨_, rfl⟩
          have hb8 : Below w7.heap.size w7 w8 := by rw [← hw8]; exact (Below.refl _ _).alloc (Nat.le_refl _) _
          have i8 : w8.heap[Zi]? = some (.stringIter ⟨ps.toArray⟩ 0) := by rw [← hw8, ← hZi]; exact World.iter_heap w7 _ 0
          have hT7 := hT6.keep hb7
          have hT8 := hT7.keep hb8
          have nr6 : rowOf w6 Bb ≠ some Zr := fun h => by have := (hT6.wr.row_lt h).2.1; omega
          have nr8 : rowOf w8 Bb ≠ some Zr := by
            have e1 : rowOf w8 Bb = rowOf w6 Bb := by
              unfold rowOf
              rw [hb8.cell (p := ⟨Bb, 1, none⟩) hT7.lt, hb7.cell (p := ⟨Bb, 1, none⟩) hT6.lt]
            rw [e1]; exact nr6
          have P8 : Hid (PtSt Bb Zo Zr Zi wB ⟨K, xc, xa, xb, xd, xn⟩ ps 0 (t ++ wd) w8) := Lib.hid ⟨hT8, blk_below (blk_below o6 hb7) hb8, blk_below r7 hb8, i8, nr8⟩
          have hZrB : Bb < Zr := by have := hT6.lt; omega
          have hZiB : Bb < Zi := by have := hb7.size; omega
          have z2 := cell_of o6 2
          have z3 := cell_of o6 3
          have z4 := cell_of o6 4
          have q2 := cell_of (blk_below s6 hb7) 2
          simp only [List.getElem?_toArray, List.getElem?_cons_zero, List.getElem?_cons_succ] at z2 z3 z4 q2
          clear o6 s6 hb7 r7 hb8 i8 hT7 hT8 nr6 nr8 hT6 hK6 HT5 HO5 HS5 z0 z1 hw4 hw5 s0 s1 s2 x0 x1 x2 x3 x4 x5 hwr1 hZo hZs hZsB
          go_wp2_with fail
          clear hw7 hw8 hZr hZi z2 z3 z4 q2 hZo6
          have hTT : (t ++ wd ++ partGo ⟨K, xc, xa, xb, xd, xn⟩ 0 ps).length ≤ 65700 := by simp only [List.length_append]; omega
          go_loopw [12] (fun rg wr => ∃ (pos q qo : Nat) (suf tt : List UInt8), rg = .slice (some ⟨Zr, qo, none⟩) (3 - q) (3 - q) ∧ Hid (qo = if q = 3 then 2 else q) ∧ pos + suf.length = ps.length ∧ q ≤ 3 ∧ Hid (PtSt Bb Zo Zr Zi wB ⟨K, xc, xa, xb, xd, xn⟩ ps pos tt wr) ∧ Hid (ps.drop pos = suf) ∧ Hid (PartOk ⟨K, xc, xa, xb, xd, xn⟩ q suf) ∧ Hid (3 ≤ tt.length ∧ tt ++ partGo ⟨K, xc, xa, xb, xd, xn⟩ q suf = t ++ wd ++ partGo ⟨K, xc, xa, xb, xd, xn⟩ 0 ps)) (fun _ wr => ps.length - wr.iterPos Zi)
          case atStart => exact ⟨0, 0, 0, ps, t ++ wd, rfl, Lib.hid rfl, by omega, by omega, P8, Lib.hid (by rw [List.drop_zero]), hPok, Lib.hid ⟨by simp only [List.length_append]; omega, rfl⟩⟩
          case round =>
            obtain ⟨pos, q, qo, suf, tt, rfl, hqo, hps, hq, hP, hsuf, hPk, hTe⟩ := hrel
            cases suf with
            | nil =>
              have hend : ¬ pos < (⟨ps.toArray⟩ : ByteArray).size := by simp [ByteArray.size]; simp at hps; omega
              have hnx := fun ty => Lib.run_next_end_at (P := Tryz.prog) wr Zi ⟨ps.toArray⟩ pos ty hP.out.i hend
              have hTT2 : tt = t ++ wd ++ partGo ⟨K, xc, xa, xb, xd, xn⟩ 0 ps := by
                have h := hTe.out.2
                rw [partGo, List.append_nil] at h
                exact h
              have HST2 := Lib.hid (show textGo t (⟨K, xc, xa, xb, xd, xn⟩ :: l.drop (j + 1)) = if (tt ++ [10]).length > 65536 then none else textGo (tt ++ [10]) (l.drop (j + 1)) by rw [HST.out, hTT2])
              have hlen := congrArg List.length hTT2
              clear hend hps hsuf hPk P8 hTe hTT2 HST hN hpl hpl2 hkl hPok
              go_wp2_with fail
              refine (put_any Bb wB tt [10] wr hP.out.st (by simp; omega)).mono ?_
              rintro e wy ⟨rfl, hTy, -⟩
              have HTy := Lib.hid hTy
              clear hTy hnx hP
              go_wp2_with fail
              refine (wlen_any Bb Bb (tt ++ [10]) wy HTy.out.wr).mono ?_
              rintro e wz ⟨rfl, rfl⟩
              obtain ⟨LL, hLL⟩ : ∃ LL : Int, ((tt ++ [10]).length : Int) = LL := ⟨_, rfl⟩
              have hl10 : (tt.length : Int) + 1 = LL := by rw [← hLL]; simp
              rw [hLL]
              clear hLL
              by_cases h65 : 65536 < tt.length + 1
              · have g1 : decide ((65536 : Int) < LL) = true := by simp; omega
                have F : Hid ((([] : List UInt8), (3 : Int)) = R) := Lib.hid (by
                  have h := HST2.out
                  rw [if_pos (by simpa using h65)] at h
                  rw [← HR.out, ← hGo2.out, h])
                clear hl10 h65
                go_wp2_with fail
                go_ret2
                exact ⟨end_txt F.out, by first | exact HB0.out.trans (HTy.out.bel.mono hHB) | (rw [hH]; exact HB0.out.trans (HTy.out.bel.mono hHB))⟩
              · have g1 : decide ((65536 : Int) < LL) = false := by simp; omega
                have hGo3 : Hid (textGo (tt ++ [10]) (l.drop (j + 1)) = textGo [] l) := Lib.hid (by
                  have h := HST2.out
                  rw [if_neg (by simpa using h65)] at h
                  rw [← h]; exact hGo2.out)
                have h65' : (tt ++ [10]).length ≤ 65536 := by simp; omega
                clear hl10 h65
                go_wp2_with fail
                go_roundw
                case rel => exact ⟨j + 1, tt ++ [10], by go_num, by omega, h65', HTy, hGo3⟩
                case measure => simp [intOf]; omega
            | cons c rest =>
              have hlt2 : pos < ps.length := by simp at hps; omega
              have hsz : (⟨ps.toArray⟩ : ByteArray).size = ps.length := by simp [ByteArray.size]
              have hget : (⟨ps.toArray⟩ : ByteArray)[pos]'(by rw [hsz]; exact hlt2) = c := by
                have h := hsuf.out
                rw [List.drop_eq_getElem_cons hlt2] at h
                injection h
              have hdrop : Hid (ps.drop (pos + 1) = rest) := Lib.hid (by
                have h := hsuf.out
                rw [List.drop_eq_getElem_cons hlt2] at h
                injection h)
              have hc128 := hPk.out.a c (List.mem_cons_self)
              have hnx := fun ty => Lib.run_next_ascii_at (P := Tryz.prog) wr Zi ⟨ps.toArray⟩ pos ty hP.out.i (by rw [hsz]; exact hlt2) (by rw [hget]; exact hc128)
              rw [hget] at hnx
              have P9 := Lib.hid (hP.out.next hZoB hZrB hZiB (pos + 1))
              have hPn := Lib.hid hPk.out.next
              have hps2 : pos + 1 + rest.length = ps.length := by simp at hps; omega
              have h3 := hTe.out.1
              have hlen := congrArg List.length hTe.out.2
              rw [List.length_append] at hlen
              generalize wr.iterAt Zi ⟨ps.toArray⟩ (pos + 1) = w9 at *
              clear hget hsz hsuf hlt2
              by_cases h99 : c = 99
              · subst h99
                obtain ⟨hc1, hc2⟩ := hPk.out.c 99 (List.mem_cons_self) rfl
                dsimp only at hc1 hc2
                obtain ⟨C, rfl⟩ : ∃ C : Nat, xc = (C : Int) := ⟨xc.toNat, by omega⟩
                have hcw := calc_at (C : Int) hc1 hc2
                have hN9 := P9.out.st.bel.block N0 (by omega)
                rw [hN.out] at hN9
                have n0 := cell_of hN9 (C - 1)
                rw [List.getElem?_toArray, show C - 1 = ((C : Int) - 1).toNat by omega, hcw, show ((C : Int) - 1).toNat = C - 1 by omega] at n0
                have z1 := cell_of P9.out.o 1
                simp only [List.getElem?_toArray, List.getElem?_cons_zero, List.getElem?_cons_succ] at z1
                have hw1 : IntKind.u8.wrap ((C : Int) - 1) = ((C - 1 : Nat) : Int) := by rw [IntKind.wrap_u8]; omega
                have g1 : ((C - 1 : Nat) : Int) < 14 := by omega
                have g2 : (0 : Int) ≤ ((C - 1 : Nat) : Int) := Int.natCast_nonneg _
                have hTe2 : Hid (3 ≤ (tt ++ 32 :: calcW C).length ∧ (tt ++ 32 :: calcW C) ++ partGo ⟨K, C, xa, xb, xd, xn⟩ q rest = t ++ wd ++ partGo ⟨K, C, xa, xb, xd, xn⟩ 0 ps) := Lib.hid ⟨by simp; omega, by rw [← hTe.out.2, partGo, if_pos rfl]; simp⟩
                have hcl := calcW_len (C : Int)
                clear hPk hN9 hcw hTe
                generalize calcW (C : Int) = cw at *
                go_wp2_with fail
                refine (put_any' Bb wB tt (32 :: cw) _ (cat_b [32] cw) w9 P9.out.st (by simp; omega)).mono ?_
                rintro e wy ⟨rfl, hT, hK⟩
                have PY := Lib.hid (P9.out.write hT hK (by simp; omega) hZoB hZrB hZiB)
                have hmz : ps.length - wy.iterPos Zi < ps.length - wr.iterPos Zi := by
                  rw [iterPos_of PY.out.i, iterPos_of hP.out.i]
                  omega
                clear hT hK P9
                go_wp2_with fail
                go_roundw
                case rel => exact ⟨pos + 1, q, qo, rest, _, rfl, hqo, hps2, hq, PY, hdrop, hPn, hTe2⟩
                case measure => omega
              · have f1 : ((c.toNat : Int) == 99) = false := by simp only [beq_eq_false_iff_ne]; intro e; exact h99 (UInt8.toNat_inj.1 (by exact_mod_cast e))
                by_cases h114 : c = 114
                · subst h114
                  have hq2 : q ≤ 2 := by have := hPk.out.r; rw [List.count_cons_self] at this; omega
                  have hrg := hXW.out.reg q
                  have hil := itoa_len (regAt ⟨K, xc, xa, xb, xd, xn⟩ q) (by omega) (by omega)
                  have hTe2 : Hid (3 ≤ (tt ++ 32 :: 114 :: Lib.itoa (regAt ⟨K, xc, xa, xb, xd, xn⟩ q)).length ∧ (tt ++ 32 :: 114 :: Lib.itoa (regAt ⟨K, xc, xa, xb, xd, xn⟩ q)) ++ partGo ⟨K, xc, xa, xb, xd, xn⟩ (q + 1) rest = t ++ wd ++ partGo ⟨K, xc, xa, xb, xd, xn⟩ 0 ps) := Lib.hid ⟨by simp; omega, by rw [← hTe.out.2, partGo, if_neg (by decide), if_pos rfl]; simp [regText]⟩
                  have hI := Lib.hid (itoa_any (regAt ⟨K, xc, xa, xb, xd, xn⟩ q) (by omega) (by omega))
                  have hr := cell_of P9.out.r q
                  rw [if_pos rfl] at hPn
                  clear hPk hTe f1 hc128 h99
                  rcases (by omega : q = 0 ∨ q = 1 ∨ q = 2) with rfl | rfl | rfl
                  · skip
                    obtain rfl : qo = 0 := hqo.out
                    obtain ⟨v, hv⟩ : ∃ v, regAt ⟨K, xc, xa, xb, xd, xn⟩ 0 = v := ⟨_, rfl⟩
                    have hvx : v = xa := by rw [← hv]; rfl
                    rw [hv] at hrg hil hTe2 hI
                    simp only [List.getElem?_toArray, List.getElem?_cons_zero, List.getElem?_cons_succ] at hr
                    rw [← hvx] at hr
                    have hw1 : wrap64 v = v := by unfold wrap64; omega
                    clear hv hvx
                    have hI := Lib.hid (hI.out w9 (HGB.out _ P9.out.st.bel))
                    generalize Lib.itoa v = it at *
                    go_wp2_with fail
                    refine hI.out.mono ?_
                    rintro e wi ⟨rfl, hbi⟩
                    replace P9 := Lib.hid (P9.out.below hbi)
                    clear hbi hI hr
                    go_wp2_with fail
                    refine (put_any' Bb wB tt (32 :: 114 :: it) _ (cat_b [32, 114] it) wi P9.out.st (by simp; omega)).mono ?_
                    rintro e wy ⟨rfl, hT, hK⟩
                    have PY := Lib.hid (P9.out.write hT hK (by simp; omega) hZoB hZrB hZiB)
                    have hmz : ps.length - wy.iterPos Zi < ps.length - wr.iterPos Zi := by
                      rw [iterPos_of PY.out.i, iterPos_of hP.out.i]
                      omega
                    clear hT hK P9
                    go_wp2_with fail
                    go_roundw
                    case rel => exact ⟨pos + 1, 0 + 1, 1, rest, _, rfl, Lib.hid rfl, hps2, by omega, PY, hdrop, hPn, hTe2⟩
                    case measure => omega
                  · skip
                    obtain rfl : qo = 1 := hqo.out
                    obtain ⟨v, hv⟩ : ∃ v, regAt ⟨K, xc, xa, xb, xd, xn⟩ 1 = v := ⟨_, rfl⟩
                    have hvx : v = xb := by rw [← hv]; rfl
                    rw [hv] at hrg hil hTe2 hI
                    simp only [List.getElem?_toArray, List.getElem?_cons_zero, List.getElem?_cons_succ] at hr
                    rw [← hvx] at hr
                    have hw1 : wrap64 v = v := by unfold wrap64; omega
                    clear hv hvx
                    have hI := Lib.hid (hI.out w9 (HGB.out _ P9.out.st.bel))
                    generalize Lib.itoa v = it at *
                    go_wp2_with fail
                    refine hI.out.mono ?_
                    rintro e wi ⟨rfl, hbi⟩
                    replace P9 := Lib.hid (P9.out.below hbi)
                    clear hbi hI hr
                    go_wp2_with fail
                    refine (put_any' Bb wB tt (32 :: 114 :: it) _ (cat_b [32, 114] it) wi P9.out.st (by simp; omega)).mono ?_
                    rintro e wy ⟨rfl, hT, hK⟩
                    have PY := Lib.hid (P9.out.write hT hK (by simp; omega) hZoB hZrB hZiB)
                    have hmz : ps.length - wy.iterPos Zi < ps.length - wr.iterPos Zi := by
                      rw [iterPos_of PY.out.i, iterPos_of hP.out.i]
                      omega
                    clear hT hK P9
                    go_wp2_with fail
                    go_roundw
                    case rel => exact ⟨pos + 1, 1 + 1, 2, rest, _, rfl, Lib.hid rfl, hps2, by omega, PY, hdrop, hPn, hTe2⟩
                    case measure => omega
                  · skip
                    obtain rfl : qo = 2 := hqo.out
                    obtain ⟨v, hv⟩ : ∃ v, regAt ⟨K, xc, xa, xb, xd, xn⟩ 2 = v := ⟨_, rfl⟩
                    have hvx : v = xd := by rw [← hv]; rfl
                    rw [hv] at hrg hil hTe2 hI
                    simp only [List.getElem?_toArray, List.getElem?_cons_zero, List.getElem?_cons_succ] at hr
                    rw [← hvx] at hr
                    have hw1 : wrap64 v = v := by unfold wrap64; omega
                    clear hv hvx
                    have hI := Lib.hid (hI.out w9 (HGB.out _ P9.out.st.bel))
                    generalize Lib.itoa v = it at *
                    go_wp2_with fail
                    refine hI.out.mono ?_
                    rintro e wi ⟨rfl, hbi⟩
                    replace P9 := Lib.hid (P9.out.below hbi)
                    clear hbi hI hr
                    go_wp2_with fail
                    refine (put_any' Bb wB tt (32 :: 114 :: it) _ (cat_b [32, 114] it) wi P9.out.st (by simp; omega)).mono ?_
                    rintro e wy ⟨rfl, hT, hK⟩
                    have PY := Lib.hid (P9.out.write hT hK (by simp; omega) hZoB hZrB hZiB)
                    have hmz : ps.length - wy.iterPos Zi < ps.length - wr.iterPos Zi := by
                      rw [iterPos_of PY.out.i, iterPos_of hP.out.i]
                      omega
                    clear hT hK P9
                    go_wp2_with fail
                    go_roundw
                    case rel => exact ⟨pos + 1, 2 + 1, 2, rest, _, rfl, Lib.hid rfl, hps2, by omega, PY, hdrop, hPn, hTe2⟩
                    case measure => omega
                · have f2 : ((c.toNat : Int) == 114) = false := by simp only [beq_eq_false_iff_ne]; intro e; exact h114 (UInt8.toNat_inj.1 (by exact_mod_cast e))
                  have hil := itoa_len xn hXW.out.n.1 hXW.out.n.2
                  have hTe2 : Hid (3 ≤ (tt ++ 32 :: Lib.itoa xn).length ∧ (tt ++ 32 :: Lib.itoa xn) ++ partGo ⟨K, xc, xa, xb, xd, xn⟩ q rest = t ++ wd ++ partGo ⟨K, xc, xa, xb, xd, xn⟩ 0 ps) := Lib.hid ⟨by simp; omega, by rw [← hTe.out.2, partGo, if_neg h99, if_neg h114]; simp⟩
                  have hI := Lib.hid (text_any xn hXW.out.n.1 hXW.out.n.2 w9 (HGB.out _ P9.out.st.bel))
                  have z5 := cell_of P9.out.o 5
                  simp only [List.getElem?_toArray, List.getElem?_cons_zero, List.getElem?_cons_succ] at z5
                  rw [if_neg h114] at hPn
                  clear hPk hTe hc128 h99 h114
                  generalize Lib.itoa xn = it at *
                  go_wp2_with fail
                  refine hI.out.mono ?_
                  rintro e wi ⟨rfl, hbi⟩
                  replace P9 := Lib.hid (P9.out.below hbi)
                  clear hbi hI z5
                  go_wp2_with fail
                  refine (put_any' Bb wB tt (32 :: it) _ (cat_b [32] it) wi P9.out.st (by simp; omega)).mono ?_
                  rintro e wy ⟨rfl, hT, hK⟩
                  have PY := Lib.hid (P9.out.write hT hK (by simp; omega) hZoB hZrB hZiB)
                  have hmz : ps.length - wy.iterPos Zi < ps.length - wr.iterPos Zi := by
                    rw [iterPos_of PY.out.i, iterPos_of hP.out.i]
                    omega
                  clear hT hK P9
                  go_wp2_with fail
                  go_roundw
                  case rel => exact ⟨pos + 1, q, qo, rest, _, rfl, hqo, hps2, hq, PY, hdrop, hPn, hTe2⟩
                  case measure => omega
        · have F : Hid ((t, (0 : Int)) = R) := Lib.hid (by
            have h := hGo.out
            rw [List.drop_of_length_le (by omega), textGo] at h
            rw [← HR.out, ← h])
          have p1 : ¬ ((j : Int) < (l.length : Int)) := by omega
          clear hGo HALL HLB HGB hN hS
          go_wp2_with fail
          refine (Tryz.Builder_String_any_k Bb Bb t wr (Lib.IsBuilderF.of hT.out.wr) (Nat.le_of_lt hBl)).mono ?_
          rintro e wz ⟨rfl, -, hbz, -⟩
          have HBz : Hid (Below H w wz) := Lib.hid (HB0.out.trans ((hT.out.bel.trans hbz).mono hHB))
          clear hbz
          go_wp2_with fail
          go_ret2
          exact ⟨end_txt F.out, by first | exact HBz.out | (rw [hH]; exact HBz.out)⟩
end Go.Proofs.YtkkcngppmhebbaaGreatDoor
