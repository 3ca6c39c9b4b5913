import Derived.Test.YtkklogikakcanaaGreatDoorEffC
import Derived.Deep.CutRange
set_option linter.unusedVariables false
set_option linter.unusedSimpArgs false
open List renaming getElem?_toArray → sl7, getElem?_cons_zero → sl8, getElem?_cons_succ → sl9
namespace Go.Proofs.YtkklogikakcanaaGreatDoor
open Go Go.Maps Go.RowKit
abbrev EfS.All (s : EfS) : Prop := ∀ j : Nat, j < s.st.length → s.st[j]? = some 2
mutual
theorem EvX.known {p : Pr} {s s2 : EfS} {x : Ex} {e : Nat} (hk : s.All) : EvX p s x e s2 → s2 = s ∧ e = vX p s.does x
 | .call (s1 := s1) h7 hi h hs => by
  obtain ⟨h1, h2⟩ := all_known hk h
  subst h1
  obtain ⟨h3, h4⟩ := hs.known hk
  subst h3
  refine ⟨rfl, ?_⟩
  rw [vX, if_pos h7, hi, ← h4, h2]
  rfl
 | .other h7 hs => by
  obtain ⟨h3, h4⟩ := hs.known hk
  subst h3
  refine ⟨rfl, ?_⟩
  rw [vX, if_neg h7, ← h4]
termination_by structural h => h
theorem EvXs.known {p : Pr} {s s2 : EfS} {l : List Ex} {e : Nat} (hk : s.All) : EvXs p s l e s2 → s2 = s ∧ e = vXs p s.does l
 | .nil => by rw [vXs]; exact ⟨rfl, rfl⟩
 | .cons (s1 := s1) h hr => by
  obtain ⟨h1, h2⟩ := h.known hk
  subst h1
  obtain ⟨h3, h4⟩ := hr.known hk
  subst h3
  refine ⟨rfl, ?_⟩
  rw [vXs, ← h2, ← h4]
termination_by structural h => h
end
mutual
theorem wrS_range {p : Pr} {d : List Nat} : ∀ (s : St) (w : Wh) (a : Int), (∀ q, wrS p d w s a = .found q → a + 1 ≤ q ∧ q ≤ a + (plSt s : Nat)) ∧ (∀ b, wrS p d w s a = .on b → b = a + (plSt s : Nat))
 | .mk k nm t x y bd body ed els, w, a => by
  obtain ⟨f1, o1⟩ := wrSs_range (p := p) (d := d) body ⟨w.atomic || decide (k = 5), w.thread, w.touching⟩ (a + 1)
  have f2 := fun a1 => wrSs_range (p := p) (d := d) els ⟨w.atomic || decide (k = 5), w.thread, w.touching⟩ a1
  rw [wrS, plSt]
  push_cast
  by_cases hb : badAt k (vOwn p d k x y) w = true
  ·rw [if_pos hb]
   exact ⟨fun q h => (by injection h with h; omega), fun b h => (by cases h)⟩
  ·rw [if_neg hb]
   cases h1 : wrSs p d ⟨w.atomic || decide (k = 5), w.thread, w.touching⟩ body (a + 1) with
   | found q1 =>
    have := f1 q1 h1
    exact ⟨fun q h => (by injection h with h; omega), fun b h => (by cases h)⟩
   | on a1 =>
    have e1 := o1 a1 h1
    obtain ⟨f3, o3⟩ := f2 a1
    exact ⟨fun q h => by have := f3 q h; omega, fun b h => by have := o3 b h; omega⟩
theorem wrSs_range {p : Pr} {d : List Nat} : ∀ (l : List St) (w : Wh) (a : Int), (∀ q, wrSs p d w l a = .found q → a + 1 ≤ q ∧ q ≤ a + (plSts l : Nat)) ∧ (∀ b, wrSs p d w l a = .on b → b = a + (plSts l : Nat))
 | [], w, a => by
  rw [wrSs, plSts]
  exact ⟨fun q h => (by cases h), fun b h => (by injection h with h; omega)⟩
 | s :: r, w, a => by
  obtain ⟨f1, o1⟩ := wrS_range (p := p) (d := d) s w a
  rw [wrSs, plSts]
  push_cast
  cases h1 : wrS p d w s a with
  | found q1 =>
   have := f1 q1 h1
   exact ⟨fun q h => (by injection h with h; omega), fun b h => (by cases h)⟩
  | on a1 =>
   have e1 := o1 a1 h1
   obtain ⟨f3, o3⟩ := wrSs_range (p := p) (d := d) r w a1
   exact ⟨fun q h => by have := f3 q h; omega, fun b h => by have := o3 b h; omega⟩
end
structure WrAt (B Kb Rb Fb Sb Ke Db Tb Pb : Nat) (p : Pr) (s : EfS) (a : Int) (w : World) : Prop where
 ef : EfIs B Kb Rb Fb Sb Ke Db Tb p s w
 all : s.All
 pl : PlAt Pb a w
 ne : (Pb ≠ Kb ∧ Pb ≠ Rb ∧ Pb ≠ Fb ∧ Pb ≠ Sb) ∧ (Pb ≠ Ke ∧ Pb ≠ Db ∧ Pb ≠ Tb) ∧ B ≤ Pb
section
variable {B Kb Rb Fb Sb Ke Db Tb Pb : Nat} {p : Pr} {s : EfS} {a a2 : Int} {w w' : World}
theorem EfIs.same (h : EfIs B Kb Rb Fb Sb Ke Db Tb p s w) (h2 : EfIs B Kb Rb Fb Sb Ke Db Tb p s w') (hk : KpE Ke Db Tb w w') : Below w.heap.size w w' :=
 ⟨hk.os, hk.tape, hk.output, hk.size, fun k hlt => by
  by_cases hh : k = Ke ∨ k = Db ∨ k = Tb
  ·rcases hh with rfl | rfl | rfl
   ·rw [h2.k, h.k]
   ·rw [h2.d, h.d]
   ·rw [h2.t, h.t]
  ·exact hk.block k hlt hh⟩
theorem WrAt.blw (h : WrAt B Kb Rb Fb Sb Ke Db Tb Pb p s a w) (hk : Kq Pb w w') : Below B w w' := Kept.below hk h.ef.sc.le fun k e => by rw [e]; exact h.ne.2.2
theorem WrAt.kept (h : WrAt B Kb Rb Fb Sb Ke Db Tb Pb p s a w) (hk : Kq Pb w w') (hp : PlAt Pb a2 w') : WrAt B Kb Rb Fb Sb Ke Db Tb Pb p s a2 w' :=
 ⟨⟨h.ef.sc.kept hk (fun e => h.ne.1.1 e.symm) (fun e => h.ne.1.2.1 e.symm) (fun e => h.ne.1.2.2.1 e.symm) (fun e => h.ne.1.2.2.2 e.symm) (fun k e => by rw [e]; exact h.ne.2.2),
  (hk.block Ke (blk_lt h.ef.k) (fun e => h.ne.2.1.1 e.symm)).trans h.ef.k, (hk.block Db (blk_lt h.ef.d) (fun e => h.ne.2.1.2.1 e.symm)).trans h.ef.d, (hk.block Tb (blk_lt h.ef.t) (fun e => h.ne.2.1.2.2 e.symm)).trans h.ef.t,
  h.ef.dl, h.ef.tl, h.ef.good, h.ef.inv, h.ef.few, h.ef.far, h.ef.ne⟩, h.all, hp, h.ne⟩
theorem WrAt.below (h : WrAt B Kb Rb Fb Sb Ke Db Tb Pb p s a w) (hb : Below w.heap.size w w') : WrAt B Kb Rb Fb Sb Ke Db Tb Pb p s a w' := h.kept (Kept.of_below hb) ((hb.block Pb h.pl.lt).trans h.pl)
theorem WrAt.step (h : WrAt B Kb Rb Fb Sb Ke Db Tb Pb p s a w) (a2 : Int) : WrAt B Kb Rb Fb Sb Ke Db Tb Pb p s a2 (w.setCell ⟨Pb, 0, none⟩ (.int .i64 a2)) ∧ Kq Pb w (w.setCell ⟨Pb, 0, none⟩ (.int .i64 a2)) := by
 have hk : Kq Pb w (w.setCell ⟨Pb, 0, none⟩ (.int .i64 a2)) := Kept.setCell (S := fun k => k = Pb) (Kept.refl _ _) (p := ⟨Pb, 0, none⟩) (Or.inl rfl) _
 exact ⟨h.kept hk (h.pl.set a2), hk⟩
end
theorem own_known {B Kb Rb Fb Sb Ke Db Tb : Nat} {p : Pr} (KN : KnP p) {s : EfS} {w : World} (h : EfIs B Kb Rb Fb Sb Ke Db Tb p s w) (ha : s.All) (k : Int) (nm : List UInt8) (t : Ty) (x y : Ex) (A : Option Addr) (l c : Nat) (E : Option Addr) (m e : Nat)
  (hx : ExIn w B x) (hy : ExIn w B y) (hkx : knE p x = true) (hky : knE p y = true) :
  Calls Tryz.prog 102 #[.pointer (some ⟨Ke, 0, none⟩), .agg (stCells k nm t x y A l c E m e).toArray] w fun e w' => e = .returned (.int .u8 ((vOwn p s.does k x y : Nat) : Int)) ∧ Below w.heap.size w w' := by
 refine (owns_any B Kb Rb Fb Sb Ke Db Tb p KN (zer s.st) k nm t x y A l c E m e s w h (Nat.le_refl _) hx hy hkx hky).mono ?_
 rintro en w' ⟨a, b, s1, s2, rfl, h1, h2, he, hk⟩
 obtain ⟨rfl, rfl⟩ := h1.known ha
 obtain ⟨rfl, rfl⟩ := h2.known ha
 exact ⟨rfl, h.same he hk⟩
mutual
theorem vX_lt {p : Pr} {s : EfS} (g : s.Good) : ∀ x : Ex, vX p s.does x < 8
 | .mk k n nm t d args => by
  rw [vX]
  refine Nat.or_lt_two_pow (n := 3) ?_ (vXs_lt g args)
  split
  ·exact (g.getD _).1
  ·exact (efGood_own _ _ _).1
theorem vXs_lt {p : Pr} {s : EfS} (g : s.Good) : ∀ l : List Ex, vXs p s.does l < 8
 | [] => by rw [vXs]; decide
 | x :: r => by rw [vXs]; exact Nat.or_lt_two_pow (n := 3) (vX_lt g x) (vXs_lt g r)
end
theorem vOwn_lt {p : Pr} {s : EfS} (g : s.Good) (k : Int) (x y : Ex) : vOwn p s.does k x y < 8 := by
 exact own_lt (vX_lt g x) (vX_lt g y)
def WrEnds (Pb : Nat) (r : Wrg) (w : World) (e : Ending) (w' : World) : Prop := match r with
 | .found q => e = .returned (.int .i64 q) ∧ (∃ b, PlAt Pb b w') ∧ Kq Pb w w'
 | .on b => e = .returned (.int .i64 (-1)) ∧ PlAt Pb b w' ∧ Kq Pb w w'
end Go.Proofs.YtkklogikakcanaaGreatDoor
namespace Go.Proofs.YtkklogikakcanaaGreatDoor
open Go Go.Maps Go.RowKit
theorem two_at0 (A : Option Addr) (l c : Nat) (E : Option Addr) (m e : Nat) (W : World) : (Instr.index 152 (.agg #[.slice A l c, .slice E m e]) (.int .i64 0)).run Tryz.prog W = .ok (.slice A l c) W := by kernel_rfl
theorem two_at1 (A : Option Addr) (l c : Nat) (E : Option Addr) (m e : Nat) (W : World) : (Instr.index 152 (.agg #[.slice A l c, .slice E m e]) (.int .i64 1)).run Tryz.prog W = .ok (.slice E m e) W := by kernel_rfl
abbrev whV (w : Wh) : Value := .agg #[.bool w.atomic, .bool w.thread, .bool w.touching]
set_option maxHeartbeats 40000000 in
set_option maxRecDepth 100000 in
theorem wrong_any (B Kb Rb Fb Sb Ke Db Tb Pb : Nat) (p : Pr) (KN : KnP p) (s : EfS) : ∀ (sz : Nat) (l : List St), plSts l ≤ sz → ∀ (d : Hd) (aa th tg : Bool) (a : Int) (w : World), WrAt B Kb Rb Fb Sb Ke Db Tb Pb p s a w → StsIn w B d l → knSs p l = true → -1 ≤ a → a + (plSts l : Nat) ≤ 1000000 →
  Calls Tryz.prog 61 #[.pointer (some ⟨Ke, 0, none⟩), .slice d.a l.length d.c, .agg #[.bool aa, .bool th, .bool tg], .pointer (some ⟨Pb, 0, none⟩)] w (WrEnds Pb (wrSs p s.does ⟨aa, th, tg⟩ l a) w) := by
 intro sz
 induction sz using Nat.strongRecOn with
 | ind sz ih =>
 intro l hsz0 d aa th tg a w h hI hkn ha1 ha2
 obtain ⟨Xw, hXw⟩ : ∃ X, w.heap.size = X := ⟨_, rfl⟩
 obtain ⟨w1, hw1⟩ : ∃ w1, w.alloc (.cells #[.bool aa, .bool th, .bool tg] 104 (0, 0)) = w1 := ⟨_, rfl⟩
 have hb1 : Below w.heap.size w w1 := by rw [← hw1]; exact (Below.refl _ _).alloc (Nat.le_refl _) _
 have xw1 : w1.heap[Xw]? = some (.cells #[.bool aa, .bool th, .bool tg] 104 (0, 0)) := by rw [← hw1, ← hXw]; exact heap_alloc_new w _
 have h1 := h.below hb1
 have hXP : Xw ≠ Pb := by have := h.pl.lt; omega
 have HWh : Hid (∀ W, Kq Pb w1 W → W.heap[Xw]? = some (.cells #[.bool aa, .bool th, .bool tg] 104 (0, 0))) := Lib.hid fun W hk => (hk.block Xw (blk_lt xw1) hXP).trans xw1
 have HW1 := Lib.hid h1
 have HKw : Hid (∀ W, Kq Pb w1 W → Kq Pb w W) := Lib.hid fun W hk => (Kept.of_below hb1).trans hk
 have HI : Hid (∀ W, Kq Pb w1 W → StsIn W B d l) := Lib.hid fun W hk => (hI.keep (hb1.mono h.ef.sc.le) (Nat.le_refl B)).keep (h1.blw hk) (Nat.le_refl B)
 have HKn : Hid (∀ y ∈ l, knS p y = true) := Lib.hid fun y hy => knSs_mem hkn hy
 have p3 : l.length ≤ 140737488355328 := hI.len
 obtain ⟨R, hR⟩ : ∃ R, wrSs p s.does ⟨aa, th, tg⟩ l a = R := ⟨_, rfl⟩
 rw [hR]
 have HR0 : Hid (wrSs p s.does ⟨aa, th, tg⟩ (l.drop 0) a = R) := Lib.hid (by rw [List.drop_zero]; exact hR)
 have HA : Hid (-1 ≤ a ∧ a + (plSts (l.drop 0) : Nat) ≤ 1000000) := Lib.hid (by rw [List.drop_zero]; exact ⟨ha1, ha2⟩)
 have HK0 : Hid (Kq Pb w1 w1) := Lib.hid (Kept.refl _ _)
 have HIh : Hid (∀ b : List St, plSts b < plSts l → ∀ (d : Hd) (aa th tg : Bool) (a : Int) (w : World), WrAt B Kb Rb Fb Sb Ke Db Tb Pb p s a w → StsIn w B d b → knSs p b = true → -1 ≤ a → a + (plSts b : Nat) ≤ 1000000 →
  Calls Tryz.prog 61 #[.pointer (some ⟨Ke, 0, none⟩), .slice d.a b.length d.c, .agg #[.bool aa, .bool th, .bool tg], .pointer (some ⟨Pb, 0, none⟩)] w (WrEnds Pb (wrSs p s.does ⟨aa, th, tg⟩ b a) w)) := Lib.hid fun b hb => ih (plSts b) (by omega) b (Nat.le_refl _)
 have HN := Lib.hid (And.intro hXw hw1)
 have HXP := Lib.hid hXP
 have HP0 := Lib.hid h1.pl
 clear h hI hkn ih hsz0 hXw hw1 hb1 xw1 h1 hXP hR ha1 ha2
 go_enter Tryz.func61, Tryz.ntmps61
 go_wp2_with fail
 simp only [HN.out.1, HN.out.2]
 go_loopw [18] (fun ii wr => ∃ (j : Nat) (b : Int), ii = .int .i64 j ∧ j ≤ l.length ∧ Hid (PlAt Pb b wr) ∧ Hid (-1 ≤ b ∧ b + (plSts (l.drop j) : Nat) ≤ 1000000) ∧ Hid (wrSs p s.does ⟨aa, th, tg⟩ (l.drop j) b = R) ∧ Hid (Kq Pb w1 wr)) (fun ii _ => l.length - (intOf ii).toNat)
 case atStart => exact ⟨0, a, rfl, Nat.zero_le _, HP0, HA, HR0, HK0⟩
 case round =>
  obtain ⟨j, b, rfl, hj, hP, hA, hR, hK⟩ := hrel
  clear HP0 HA HR0 HK0
  have p2 : (0 : Int) ≤ (j : Int) := Int.natCast_nonneg _
  by_cases hlt : j < l.length
  ·obtain ⟨y, hy⟩ : ∃ y, l[j]? = some y := ⟨_, List.getElem?_eq_getElem hlt⟩
   have hdrop : l.drop j = y :: l.drop (j + 1) := by
    have := List.drop_eq_getElem_cons hlt
    rw [List.getElem?_eq_getElem hlt] at hy
    injection hy with hy
    rw [this, hy]
   have hmem := List.mem_of_getElem? hy
   have hIr := HI.out _ hK.out
   obtain ⟨rb, ro, hda, hrb, hrow⟩ := hIr.row (by intro h0; rw [h0] at hlt; simp at hlt)
   have hsa := hrow j y hy
   have hsI := hIr.sub y hmem
   have hle := plSts_drop j l
   have hA1 := hA.out
   have hR1 := hR.out
   rw [hdrop, plSts] at hle hA1
   rw [hdrop, wrSs] at hR1
   have hkn := HKn.out y hmem
   obtain ⟨k, nm, t, x, u, bd, body, ed, els⟩ := y
   rw [plSt] at hle hA1
   rw [wrS] at hR1
   rw [knS] at hkn
   simp only [Bool.and_eq_true] at hkn
   have hz := hsa.cells
   dsimp only [St.k, St.nm, St.t, St.x, St.y, St.bd, St.body, St.ed, St.els] at hz
   have hWr := HW1.out.kept hK.out hP.out
   obtain ⟨X6, hX6⟩ : ∃ X6, wr.heap.size = X6 := ⟨_, rfl⟩
   obtain ⟨w6, hw6⟩ : ∃ w6, wr.alloc (stObj k nm t x u bd.a body.length bd.c ed.a els.length ed.c) = w6 := ⟨_, rfl⟩
   have hb6 : Below wr.heap.size wr w6 := by rw [← hw6]; exact (Below.refl _ _).alloc (Nat.le_refl _) _
   have x6 : w6.heap[X6]? = some (stObj k nm t x u bd.a body.length bd.c ed.a els.length ed.c) := by rw [← hw6, ← hX6]; exact heap_alloc_new wr _
   have hWr6 := hWr.below hb6
   have hXP6 : X6 ≠ Pb := by have := hP.out.lt; omega
   have hst := hWr6.step (b + 1)
   obtain ⟨w7, hw7⟩ : ∃ w7, w6.setCell ⟨Pb, 0, none⟩ (.int .i64 (b + 1)) = w7 := ⟨_, rfl⟩
   rw [hw7] at hst
   have HRow : Hid (∀ W, Kq Pb w6 W → W.heap[X6]? = some (stObj k nm t x u bd.a body.length bd.c ed.a els.length ed.c)) := Lib.hid fun W hk => (hk.block X6 (blk_lt x6) hXP6).trans x6
   have HK7 : Hid (Kq Pb w1 w7 ∧ Kq Pb w6 w7) := Lib.hid ⟨(hK.out.behind hb6).trans hst.2, hst.2⟩
   have HSI : Hid (∀ W, Kq Pb w6 W → StIn W B (.mk k nm t x u bd body ed els)) := Lib.hid fun W hk => (hsI.keep (hb6.mono hWr.ef.sc.le) (Nat.le_refl B)).keep (hWr6.blw hk) (Nat.le_refl B)
   have HW7 := Lib.hid hst.1
   have CO := Lib.hid (own_known KN hst.1.ef hst.1.all k nm t x u bd.a body.length bd.c ed.a els.length ed.c (HSI.out _ hst.2).x (HSI.out _ hst.2).y hkn.1.1 hkn.1.2)
   have HKk := Lib.hid hkn.2
   have z7 : ∀ q v, (stCells k nm t x u bd.a body.length bd.c ed.a els.length ed.c)[q]? = some v → ((wr.alloc (stObj k nm t x u bd.a body.length bd.c ed.a els.length ed.c)).setCell ⟨Pb, 0, none⟩ (.int .i64 (b + 1))).cell? ((⟨wr.heap.size, 0, none⟩ : Addr).add q) = some v := by
    rw [hX6, hw6, hw7]
    exact row_cells (vs := stCells k nm t x u bd.a body.length bd.c ed.a els.length ed.c) (w := w7) (HRow.out _ hst.2)
   have c0 := cell_at hWr6.pl 0
   have f0 := frz_at hWr6.pl 0
   simp only [sl7, sl8] at c0
   have hba : -1 ≤ b := hA1.1
   have hbb : b ≤ 999999 := by omega
   have HA7 : Hid (plSts body < plSts l ∧ plSts els < plSts l ∧ b + 1 + (plSts body : Nat) + (plSts els : Nat) + (plSts (l.drop (j + 1)) : Nat) ≤ 1000000) := Lib.hid ⟨by omega, by omega, by omega⟩
   have HR1 := Lib.hid hR1
   have HVl : Hid (vOwn p s.does k x u < 8) := Lib.hid (vOwn_lt HW1.out.ef.good k x u)
   have p1 : (j : Int) < (l.length : Int) := by omega
   have HNm := Lib.hid (And.intro hX6 (And.intro hw6 hw7))
   generalize hvv : vOwn p s.does k x u = ev at *
   clear hb6 x6 hrow hIr hdrop hX6 hw6 hw7 hK hP hA hR hA1 hR1 hle hsa hsI hmem hy hkn hrb hWr hWr6 hst hXP6 hvv
   rw [← HNm.out.2.1] at c0 f0
   rw [hda]
   go_wp2_with (first | (refine wpList_load_list rfl 72 _ rfl _ rfl (stCells k nm t x u bd.a body.length bd.c ed.a els.length ed.c) _ hz Tryz.underlying72 rfl (stSize ..) ?_) | (refine wpList_store_row rfl 72 _ _ rfl wr.heap.size (stCells k nm t x u bd.a body.length bd.c ed.a els.length ed.c).toArray rfl rfl 72 _ (heap_alloc_new wr _) (stSizeA ..) rfl (stOne ..) ?_; rw [alloc_setRow _ _ _ _ _ rfl]) | (refine wpList_load_list rfl 72 _ rfl _ rfl (stCells k nm t x u bd.a body.length bd.c ed.a els.length ed.c) _ z7 Tryz.underlying72 rfl (stSize ..) ?_))
   simp only [HNm.out.1, HNm.out.2.1, HNm.out.2.2]
   clear z7 hz c0 f0
   refine CO.out.mono ?_
   rintro e w8 ⟨rfl, hb8⟩
   have HK8 : Hid (Kq Pb w1 w8 ∧ Kq Pb w6 w8) := Lib.hid ⟨HK7.out.1.behind hb8, HK7.out.2.behind hb8⟩
   have HW8 := Lib.hid (HW7.out.below hb8)
   have r0 := cell_at (HRow.out _ HK8.out.2) 0
   have r19 := cell_at (HRow.out _ HK8.out.2) 19
   have r20 := cell_at (HRow.out _ HK8.out.2) 20
   have g0 := cell_at (HWh.out _ HK8.out.1) 0
   have g1 := cell_at (HWh.out _ HK8.out.1) 1
   have g2 := cell_at (HWh.out _ HK8.out.1) 2
   have c0 := cell_at HW8.out.pl 0
   simp only [sl7, sl8, sl9] at r0 r19 r20 g0 g1 g2 c0
   clear hb8 CO HW7 HK7
   go_upto_block 2 with fail
   have hd2 : (bits BinOp.and IntKind.u8 (ev : Int) 2 != 0) = decide (ev &&& 2 ≠ 0) := by
    have := bits_and8 ev HVl.out 2 (by decide)
    rw [show ((2 : Nat) : Int) = 2 from rfl] at this
    rw [this]
    by_cases h : ev &&& 2 = 0
    ·rw [h]; rfl
    ·rw [show decide (ev &&& 2 ≠ 0) = true from decide_eq_true h]; exact bne_iff_ne.2 (fun e => h (by exact_mod_cast e))
   have hd1 : (bits BinOp.and IntKind.u8 (ev : Int) 1 != 0) = decide (ev &&& 1 ≠ 0) := by
    have := bits_and8 ev HVl.out 1 (by decide)
    rw [show ((1 : Nat) : Int) = 1 from rfl] at this
    rw [this]
    by_cases h : ev &&& 1 = 0
    ·rw [h]; rfl
    ·rw [show decide (ev &&& 1 ≠ 0) = true from decide_eq_true h]; exact bne_iff_ne.2 (fun e => h (by exact_mod_cast e))
   obtain ⟨BB, hBB⟩ : ∃ BB, badAt k ev ⟨aa, th, tg⟩ = BB := ⟨_, rfl⟩
   have HBB := Lib.hid hBB
   have HR2 : Hid (BB = true → WrEnds Pb R w (.returned (.int .i64 (b + 1))) w8) := Lib.hid fun h => by
    have hr := HR1.out
    rw [hBB, if_pos h] at hr
    rw [← hr]
    exact ⟨rfl, ⟨_, HW8.out.pl⟩, HKw.out _ HK8.out.1⟩
   unfold badAt at hBB
   generalize decide (ev &&& 2 ≠ 0) = e2 at *
   generalize decide (ev &&& 1 ≠ 0) = e1 at *
   go_cut [11] (fun s11 wx => BB = false ∧ s11 = .int .u8 (ev : Int) ∧ wx = w8)
   case first =>
    dsimp only at hBB
    by_cases h7 : k = 7
    ·subst h7
     rw [show decide ((7 : Int) = 7) = true from rfl] at hBB
     cases aa <;> cases th <;> cases tg <;> cases e2 <;> cases e1
     all_goals
      first
       |(have hF := Lib.hid (show BB = false by rw [← hBB]; rfl); clear hBB; go_wp2_with fail; go_meet; exact ⟨hF.out, rfl, rfl⟩)
       |(have hT := Lib.hid (show BB = true by rw [← hBB]; rfl); clear hBB; go_wp2_with fail; go_ret; exact HR2.out hT.out)
    ·have b7 : (k == 7) = false := by simpa using h7
     rw [show decide (k = 7) = false from decide_eq_false h7] at hBB
     clear h7
     cases aa <;> cases th <;> cases tg <;> cases e2 <;> cases e1
     all_goals
      first
       |(have hF := Lib.hid (show BB = false by rw [← hBB]; rfl); clear hBB; go_wp2_with fail; go_meet; exact ⟨hF.out, rfl, rfl⟩)
       |(have hT := Lib.hid (show BB = true by rw [← hBB]; rfl); clear hBB; go_wp2_with fail; go_ret; exact HR2.out hT.out)
   case rest =>
    obtain ⟨hF, rfl, rfl⟩ := hcut
    have HR3 : Hid (∀ ia, ia = (aa || decide (k = 5)) → (match (match wrSs p s.does ⟨ia, th, tg⟩ body (b + 1) with | .found q => Wrg.found q | .on a1 => wrSs p s.does ⟨ia, th, tg⟩ els a1) with | .found q => Wrg.found q | .on a1 => wrSs p s.does ⟨aa, th, tg⟩ (l.drop (j + 1)) a1) = R) := Lib.hid fun ia hia => by
     have h := HR1.out
     rw [HBB.out, hF, if_neg (by decide)] at h
     rw [hia]
     exact h
    clear hBB HBB HR1 HR2 hd1 hd2 HVl hF c0
    cases aa with
    | true =>
     obtain ⟨Y, hY⟩ : ∃ Y, wc.heap.size = Y := ⟨_, rfl⟩
     obtain ⟨w9, hw9⟩ : ∃ w9, wc.alloc (.cells #[.bool true, .bool th, .bool tg] 104 (0, 0)) = w9 := ⟨_, rfl⟩
     have y9 : w9.heap[Y]? = some (.cells #[.bool true, .bool th, .bool tg] 104 (0, 0)) := by rw [← hw9, ← hY]; exact heap_alloc_new _ _
     have hb9 : Below wc.heap.size wc w9 := by rw [← hw9]; exact (Below.refl _ wc).alloc (Nat.le_refl _) _
     have HW9 := Lib.hid (HW8.out.below hb9)
     have HK9 : Hid (Kq Pb w1 w9 ∧ Kq Pb w6 w9) := Lib.hid ⟨HK8.out.1.behind hb9, HK8.out.2.behind hb9⟩
     have hYP : Y ≠ Pb := by have := HW8.out.pl.lt; omega
     have HYr : Hid (∀ W, Kq Pb w9 W → W.heap[Y]? = some (.cells #[.bool true, .bool th, .bool tg] 104 (0, 0))) := Lib.hid fun W hk => (hk.block Y (blk_lt y9) hYP).trans y9
     have HR4 := Lib.hid (HR3.out true rfl)
     have s0 := cell_at (HRow.out _ HK9.out.2) 19
     have s1 := cell_at (HRow.out _ HK9.out.2) 20
     simp only [sl7, sl8, sl9] at s0 s1
     rw [← hw9] at s0 s1
     have hB0 : Below wc.heap.size wc (wc.alloc (.cells #[.bool true, .bool th, .bool tg] 104 (0, 0))) := (Below.refl _ wc).alloc (Nat.le_refl _) _
     have a0 := (hB0.cell (p := ⟨Xw, 0, none⟩) (World.block_lt_of_cell? _ _ g0)).trans g0
     have a1 := (hB0.cell (p := ⟨X6, 0, none⟩) (World.block_lt_of_cell? _ _ r0)).trans r0
     have HNy := Lib.hid hw9
     clear hB0 hw9 y9 hb9 hYP r19 r20
     go_wp2_with fail
     try simp only [HNy.out]
     clear s0 s1 a0 a1 hY g0 g1 g2 r0
     have y0 := cell_at (HYr.out _ (Kept.refl _ _)) 0
     have y1 := cell_at (HYr.out _ (Kept.refl _ _)) 1
     have y2 := cell_at (HYr.out _ (Kept.refl _ _)) 2
     simp only [sl7, sl8, sl9] at y0 y1 y2
     have ix0 := two_at0 bd.a body.length bd.c ed.a els.length ed.c
     have ix1 := two_at1 bd.a body.length bd.c ed.a els.length ed.c
     refine wp_loop_rounds 3 ?_
     rw [rounds_succ]
     go_wp2_with fail
     have HV9 := Lib.hid (wrSs_range (p := p) (d := s.does) body ⟨true, th, tg⟩ (b + 1))
     have C1 := HIh.out body HA7.out.1 bd true th tg (b + 1) w9 HW9.out ((HSI.out _ HK9.out.2).body) HKk.out.1 (by omega) (by have := HA7.out.2.2; omega)
     cases hb1 : wrSs p s.does ⟨true, th, tg⟩ body (b + 1) with
     | found q =>
      rw [hb1] at C1
      have hq := (HV9.out.1 q hb1).1
      have d1 : decide (0 ≤ q) = true := by simp; omega
      have HRq : Hid (R = .found q) := Lib.hid (by have h := HR4.out; rw [hb1] at h; exact h.symm)
      clear hb1 HR4 HR3
      refine C1.mono ?_
      rintro e w10 ⟨rfl, hp10, hk10⟩
      have HF : Hid (WrEnds Pb R w (.returned (.int .i64 q)) w10) := Lib.hid (by rw [HRq.out]; exact ⟨rfl, hp10, HKw.out _ (HK9.out.1.trans hk10)⟩)
      clear hp10 hk10 C1
      go_wp2_with fail
      go_ret
      exact HF.out
     | on a1 =>
      rw [hb1] at C1
      have ha1 := HV9.out.2 a1 hb1
      have HR5 : Hid ((match wrSs p s.does ⟨true, th, tg⟩ els a1 with | .found q => Wrg.found q | .on a1 => wrSs p s.does ⟨true, th, tg⟩ (l.drop (j + 1)) a1) = R) := Lib.hid (by have h := HR4.out; rw [hb1] at h; exact h)
      have HA1 := Lib.hid ha1
      clear hb1 HR4 HR3 ha1 HV9
      refine C1.mono ?_
      rintro e w10 ⟨rfl, hp10, hk10⟩
      have HK10 : Hid (Kq Pb w1 w10 ∧ Kq Pb w6 w10 ∧ Kq Pb w9 w10) := Lib.hid ⟨HK9.out.1.trans hk10, HK9.out.2.trans hk10, hk10⟩
      have HW10 := Lib.hid (HW9.out.kept hk10 hp10)
      clear hp10 hk10 C1 y0 y1 y2
      have y0 := cell_at (HYr.out _ HK10.out.2.2) 0
      have y1 := cell_at (HYr.out _ HK10.out.2.2) 1
      have y2 := cell_at (HYr.out _ HK10.out.2.2) 2
      simp only [sl7, sl8, sl9] at y0 y1 y2
      go_wp2_with fail
      rw [rounds_succ]
      go_wp2_with fail
      have HV10 := Lib.hid (wrSs_range (p := p) (d := s.does) els ⟨true, th, tg⟩ a1)
      have C2 := HIh.out els HA7.out.2.1 ed true th tg a1 w10 HW10.out ((HSI.out _ HK10.out.2.1).els) HKk.out.2 (by have := HA1.out; omega) (by have := HA7.out.2.2; have := HA1.out; omega)
      cases hb2 : wrSs p s.does ⟨true, th, tg⟩ els a1 with
      | found q =>
       rw [hb2] at C2
       have hq := (HV10.out.1 q hb2).1
       have d1 : decide (0 ≤ q) = true := by have := HA1.out; simp; omega
       have HRq : Hid (R = .found q) := Lib.hid (by have h := HR5.out; rw [hb2] at h; exact h.symm)
       clear hb2 HR5
       refine C2.mono ?_
       rintro e w11 ⟨rfl, hp11, hk11⟩
       have HF : Hid (WrEnds Pb R w (.returned (.int .i64 q)) w11) := Lib.hid (by rw [HRq.out]; exact ⟨rfl, hp11, HKw.out _ (HK10.out.1.trans hk11)⟩)
       clear hp11 hk11 C2
       go_wp2_with fail
       go_ret
       exact HF.out
      | on a2 =>
       rw [hb2] at C2
       have ha2 := HV10.out.2 a2 hb2
       have HR6 : Hid (wrSs p s.does ⟨true, th, tg⟩ (l.drop (j + 1)) a2 = R) := Lib.hid (by have h := HR5.out; rw [hb2] at h; exact h)
       have HA2 : Hid (-1 ≤ a2 ∧ a2 + (plSts (l.drop (j + 1)) : Nat) ≤ 1000000) := Lib.hid (by have h1 := HA1.out; have h2 := HA7.out.2.2; constructor <;> omega)
       clear hb2 HR5 ha2 HV10
       refine C2.mono ?_
       rintro e w11 ⟨rfl, hp11, hk11⟩
       have HP11 := Lib.hid hp11
       have HK11 : Hid (Kq Pb w1 w11) := Lib.hid (HK10.out.1.trans hk11)
       clear hp11 hk11 C2 y0 y1 y2
       go_wp2_with fail
       rw [rounds_succ]
       go_wp2_with fail
       go_roundw
       case rel => exact ⟨j + 1, a2, by go_num, by omega, HP11, HA2, HR6, HK11⟩
       case measure => simp [intOf]; omega
    | false =>
     have hk5 : (k == 5) = decide (k = 5) := by by_cases h : k = 5 <;> simp [h]
     obtain ⟨ia, hia⟩ : ∃ ia, decide (k = 5) = ia := ⟨_, rfl⟩
     rw [hia] at hk5
     have Hia := Lib.hid hia
     clear hia
     obtain ⟨Y, hY⟩ : ∃ Y, wc.heap.size = Y := ⟨_, rfl⟩
     obtain ⟨w9, hw9⟩ : ∃ w9, wc.alloc (.cells #[.bool ia, .bool th, .bool tg] 104 (0, 0)) = w9 := ⟨_, rfl⟩
     have y9 : w9.heap[Y]? = some (.cells #[.bool ia, .bool th, .bool tg] 104 (0, 0)) := by rw [← hw9, ← hY]; exact heap_alloc_new _ _
     have hb9 : Below wc.heap.size wc w9 := by rw [← hw9]; exact (Below.refl _ wc).alloc (Nat.le_refl _) _
     have HW9 := Lib.hid (HW8.out.below hb9)
     have HK9 : Hid (Kq Pb w1 w9 ∧ Kq Pb w6 w9) := Lib.hid ⟨HK8.out.1.behind hb9, HK8.out.2.behind hb9⟩
     have hYP : Y ≠ Pb := by have := HW8.out.pl.lt; omega
     have HYr : Hid (∀ W, Kq Pb w9 W → W.heap[Y]? = some (.cells #[.bool ia, .bool th, .bool tg] 104 (0, 0))) := Lib.hid fun W hk => (hk.block Y (blk_lt y9) hYP).trans y9
     have HR4 := Lib.hid (HR3.out ia (by rw [← Hia.out]; rfl))
     have s0 := cell_at (HRow.out _ HK9.out.2) 19
     have s1 := cell_at (HRow.out _ HK9.out.2) 20
     simp only [sl7, sl8, sl9] at s0 s1
     rw [← hw9] at s0 s1
     have hB0 : Below wc.heap.size wc (wc.alloc (.cells #[.bool false, .bool th, .bool tg] 104 (0, 0))) := (Below.refl _ wc).alloc (Nat.le_refl _) _
     have a0 := (hB0.cell (p := ⟨Xw, 0, none⟩) (World.block_lt_of_cell? _ _ g0)).trans g0
     have a1 := (hB0.cell (p := ⟨X6, 0, none⟩) (World.block_lt_of_cell? _ _ r0)).trans r0
     have HNy := Lib.hid hw9
     clear hB0 hw9 y9 hb9 hYP r19 r20
     go_wp2_with fail
     try simp only [HNy.out]
     clear s0 s1 a0 a1 hY g0 g1 g2 r0
     have y0 := cell_at (HYr.out _ (Kept.refl _ _)) 0
     have y1 := cell_at (HYr.out _ (Kept.refl _ _)) 1
     have y2 := cell_at (HYr.out _ (Kept.refl _ _)) 2
     simp only [sl7, sl8, sl9] at y0 y1 y2
     have ix0 := two_at0 bd.a body.length bd.c ed.a els.length ed.c
     have ix1 := two_at1 bd.a body.length bd.c ed.a els.length ed.c
     refine wp_loop_rounds 3 ?_
     rw [rounds_succ]
     go_wp2_with fail
     have HV9 := Lib.hid (wrSs_range (p := p) (d := s.does) body ⟨ia, th, tg⟩ (b + 1))
     have C1 := HIh.out body HA7.out.1 bd ia th tg (b + 1) w9 HW9.out ((HSI.out _ HK9.out.2).body) HKk.out.1 (by omega) (by have := HA7.out.2.2; omega)
     cases hb1 : wrSs p s.does ⟨ia, th, tg⟩ body (b + 1) with
     | found q =>
      rw [hb1] at C1
      have hq := (HV9.out.1 q hb1).1
      have d1 : decide (0 ≤ q) = true := by simp; omega
      have HRq : Hid (R = .found q) := Lib.hid (by have h := HR4.out; rw [hb1] at h; exact h.symm)
      clear hb1 HR4 HR3
      refine C1.mono ?_
      rintro e w10 ⟨rfl, hp10, hk10⟩
      have HF : Hid (WrEnds Pb R w (.returned (.int .i64 q)) w10) := Lib.hid (by rw [HRq.out]; exact ⟨rfl, hp10, HKw.out _ (HK9.out.1.trans hk10)⟩)
      clear hp10 hk10 C1
      go_wp2_with fail
      go_ret
      exact HF.out
     | on a1 =>
      rw [hb1] at C1
      have ha1 := HV9.out.2 a1 hb1
      have HR5 : Hid ((match wrSs p s.does ⟨ia, th, tg⟩ els a1 with | .found q => Wrg.found q | .on a1 => wrSs p s.does ⟨false, th, tg⟩ (l.drop (j + 1)) a1) = R) := Lib.hid (by have h := HR4.out; rw [hb1] at h; exact h)
      have HA1 := Lib.hid ha1
      clear hb1 HR4 HR3 ha1 HV9
      refine C1.mono ?_
      rintro e w10 ⟨rfl, hp10, hk10⟩
      have HK10 : Hid (Kq Pb w1 w10 ∧ Kq Pb w6 w10 ∧ Kq Pb w9 w10) := Lib.hid ⟨HK9.out.1.trans hk10, HK9.out.2.trans hk10, hk10⟩
      have HW10 := Lib.hid (HW9.out.kept hk10 hp10)
      clear hp10 hk10 C1 y0 y1 y2
      have y0 := cell_at (HYr.out _ HK10.out.2.2) 0
      have y1 := cell_at (HYr.out _ HK10.out.2.2) 1
      have y2 := cell_at (HYr.out _ HK10.out.2.2) 2
      simp only [sl7, sl8, sl9] at y0 y1 y2
      go_wp2_with fail
      rw [rounds_succ]
      go_wp2_with fail
      have HV10 := Lib.hid (wrSs_range (p := p) (d := s.does) els ⟨ia, th, tg⟩ a1)
      have C2 := HIh.out els HA7.out.2.1 ed ia th tg a1 w10 HW10.out ((HSI.out _ HK10.out.2.1).els) HKk.out.2 (by have := HA1.out; omega) (by have := HA7.out.2.2; have := HA1.out; omega)
      cases hb2 : wrSs p s.does ⟨ia, th, tg⟩ els a1 with
      | found q =>
       rw [hb2] at C2
       have hq := (HV10.out.1 q hb2).1
       have d1 : decide (0 ≤ q) = true := by have := HA1.out; simp; omega
       have HRq : Hid (R = .found q) := Lib.hid (by have h := HR5.out; rw [hb2] at h; exact h.symm)
       clear hb2 HR5
       refine C2.mono ?_
       rintro e w11 ⟨rfl, hp11, hk11⟩
       have HF : Hid (WrEnds Pb R w (.returned (.int .i64 q)) w11) := Lib.hid (by rw [HRq.out]; exact ⟨rfl, hp11, HKw.out _ (HK10.out.1.trans hk11)⟩)
       clear hp11 hk11 C2
       go_wp2_with fail
       go_ret
       exact HF.out
      | on a2 =>
       rw [hb2] at C2
       have ha2 := HV10.out.2 a2 hb2
       have HR6 : Hid (wrSs p s.does ⟨false, th, tg⟩ (l.drop (j + 1)) a2 = R) := Lib.hid (by have h := HR5.out; rw [hb2] at h; exact h)
       have HA2 : Hid (-1 ≤ a2 ∧ a2 + (plSts (l.drop (j + 1)) : Nat) ≤ 1000000) := Lib.hid (by have h1 := HA1.out; have h2 := HA7.out.2.2; constructor <;> omega)
       clear hb2 HR5 ha2 HV10
       refine C2.mono ?_
       rintro e w11 ⟨rfl, hp11, hk11⟩
       have HP11 := Lib.hid hp11
       have HK11 : Hid (Kq Pb w1 w11) := Lib.hid (HK10.out.1.trans hk11)
       clear hp11 hk11 C2 y0 y1 y2
       go_wp2_with fail
       rw [rounds_succ]
       go_wp2_with fail
       go_roundw
       case rel => exact ⟨j + 1, a2, by go_num, by omega, HP11, HA2, HR6, HK11⟩
       case measure => simp [intOf]; omega
  ·obtain rfl : j = l.length := by omega
   have HF : Hid (R = .on b) := Lib.hid (by
    have h := hR.out
    rw [List.drop_length, wrSs] at h
    exact h.symm)
   have HF2 := Lib.hid (HKw.out _ hK.out)
   clear hA hR hK
   go_wp2_with fail
   go_ret
   rw [HF.out]
   exact ⟨rfl, hP.out, HF2.out⟩
end Go.Proofs.YtkklogikakcanaaGreatDoor
