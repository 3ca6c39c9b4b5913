import Derived.Test.YtkklogikakcanaaGreatDoorScopeC
import Derived.Test.YtkklogikakcanaaGreatDoorEffPlain
import Derived.Deep.DeepCutAuto
import Derived.Deep.CutBlock
set_option linter.unusedVariables false
set_option linter.unusedSimpArgs false
open List renaming getElem_toArray → sl1, getElem_cons_zero → sl2, getElem_cons_succ → sl3, setIfInBounds_toArray → sl4, set_cons_zero → sl5, set_cons_succ → sl6, getElem?_toArray → sl7, getElem?_cons_zero → sl8, getElem?_cons_succ → sl9
namespace Go.Proofs.YtkklogikakcanaaGreatDoor
open Go Go.Maps Go.RowKit
theorem blk_lt {w : World} {k : Nat} {o : Obj} (h : w.heap[k]? = some o) : k < w.heap.size := (Array.getElem?_eq_some_iff.1 h).1
abbrev KpE (Ke Db Tb : Nat) : World → World → Prop := Kept (fun k => k = Ke ∨ k = Db ∨ k = Tb)
abbrev efCells (p : Pr) (Kb Db Tb : Nat) (r : Bool) : Array Value := #[.slice p.rd.a p.rs.length p.rd.c, .slice p.sd.a p.ss.length p.sd.c, .slice p.fd.a p.fs.length p.fd.c, .slice p.td.a p.ts.length p.td.c, .pointer (some ⟨Kb, 0, none⟩), .slice (some ⟨Db, 0, none⟩) p.fs.length p.fs.length, .slice (some ⟨Tb, 0, none⟩) p.fs.length p.fs.length, .bool r]
abbrev doesV (l : List Nat) : Array Value := (l.map fun e : Nat => Value.int .u8 (e : Int)).toArray
abbrev statV (l : List Nat) : Array Value := (l.map fun e : Nat => Value.int .i64 (e : Int)).toArray
structure EfIs (B Kb Rb Fb Sb Ke Db Tb : Nat) (p : Pr) (s : EfS) (w : World) : Prop where
 sc : ScIs B Kb Rb Fb Sb p w
 k : w.heap[Ke]? = some (.cells (efCells p Kb Db Tb s.ring) 100 (0, 0))
 d : w.heap[Db]? = some (.cells (doesV s.does) 50 (0, 0))
 t : w.heap[Tb]? = some (.cells (statV s.st) 3 (0, 0))
 dl : s.does.length = p.fs.length
 tl : s.st.length = p.fs.length
 good : s.Good
 inv : s.Inv
 few : s.Few
 far : ∀ k, (k = Ke ∨ k = Db ∨ k = Tb) → k ≠ Kb ∧ k ≠ Rb ∧ k ≠ Fb ∧ k ≠ Sb ∧ B ≤ k
 ne : Ke ≠ Db ∧ Ke ≠ Tb ∧ Db ≠ Tb
theorem lookV {f : Nat → Value} {l : List Nat} {i e : Nat} (h : l[i]? = some e) : ((l.map f).toArray)[i]? = some (f e) := by
 rw [sl7, List.getElem?_map, h]; rfl
theorem setV {f : Nat → Value} {l : List Nat} {i e : Nat} : ((l.map f).toArray).setIfInBounds i (f e) = ((l.set i e).map f).toArray := by
 rw [sl4, List.map_set]
section
variable {B Kb Rb Fb Sb Ke Db Tb : Nat} {p : Pr} {s s' : EfS} {w w' : World}
theorem EfIs.blw (h : EfIs B Kb Rb Fb Sb Ke Db Tb p s w) (hk : KpE Ke Db Tb w w') : Below B w w' := hk.below h.sc.le fun k hh => (h.far k hh).2.2.2.2
theorem EfIs.move (h : EfIs B Kb Rb Fb Sb Ke Db Tb p s w) (hk : KpE Ke Db Tb w w') (h1 : w'.heap[Ke]? = some (.cells (efCells p Kb Db Tb s'.ring) 100 (0, 0)))
  (h2 : w'.heap[Db]? = some (.cells (doesV s'.does) 50 (0, 0))) (h3 : w'.heap[Tb]? = some (.cells (statV s'.st) 3 (0, 0)))
  (hd : s'.does.length = s.does.length) (ht : s'.st.length = s.st.length) (hg : s'.Good) (hi : s'.Inv) (hf : s'.Few) : EfIs B Kb Rb Fb Sb Ke Db Tb p s' w' :=
 ⟨h.sc.kept hk (fun e => (h.far _ e).1 rfl) (fun e => (h.far _ e).2.1 rfl) (fun e => (h.far _ e).2.2.1 rfl) (fun e => (h.far _ e).2.2.2.1 rfl) (fun k hh => (h.far k hh).2.2.2.2), h1, h2, h3, hd.trans h.dl, ht.trans h.tl, hg, hi, hf, h.far, h.ne⟩
theorem EfIs.below (h : EfIs B Kb Rb Fb Sb Ke Db Tb p s w) (hb : Below w.heap.size w w') : EfIs B Kb Rb Fb Sb Ke Db Tb p s w' :=
 h.move (Kept.of_below hb) ((hb.block Ke (blk_lt h.k)).trans h.k) ((hb.block Db (blk_lt h.d)).trans h.d) ((hb.block Tb (blk_lt h.t)).trans h.t) rfl rfl h.good h.inv h.few
theorem EfIs.drew (h : EfIs B Kb Rb Fb Sb Ke Db Tb p s w) : EfIs B Kb Rb Fb Sb Ke Db Tb p s w.drew := h.below (Below.refl _ _).drew
theorem EfIs.look (h : EfIs B Kb Rb Fb Sb Ke Db Tb p s w) {i : Nat} (h0 : s.st[i]? = some 0) : EfIs B Kb Rb Fb Sb Ke Db Tb p ⟨s.does, s.st.set i 1, s.ring⟩ (w.setCell ⟨Tb, i, none⟩ (.int .i64 1)) ∧ KpE Ke Db Tb w (w.setCell ⟨Tb, i, none⟩ (.int .i64 1)) := by
 have hk : KpE Ke Db Tb w (w.setCell ⟨Tb, i, none⟩ (.int .i64 1)) := Kept.setCell (Kept.refl _ _) (p := ⟨Tb, i, none⟩) (Or.inl (Or.inr (Or.inr rfl))) _
 refine ⟨h.move hk ?_ ?_ ?_ rfl (by dsimp only; rw [List.length_set]) h.good (inv_look h0 h.inv) (few_set h.few (by decide)), hk⟩
 ·rw [Below.heap_setCell _ _ _ _ (fun e => h.ne.2.1 (by first | exact e | exact e.symm))]; exact h.k
 ·rw [Below.heap_setCell _ _ _ _ (fun e => h.ne.2.2 (by first | exact e | exact e.symm))]; exact h.d
 ·have := row_set h.t i (.int .i64 ((1 : Nat) : Int))
  rw [show statV s.st = (s.st.map fun e : Nat => Value.int .i64 (e : Int)).toArray from rfl, setV] at this
  exact this
theorem EfIs.know (h : EfIs B Kb Rb Fb Sb Ke Db Tb p s w) {i e : Nat} (hg : EfGood e) (hi : EfS.Inv ⟨s.does.set i e, s.st.set i 2, s.ring⟩) : EfIs B Kb Rb Fb Sb Ke Db Tb p ⟨s.does.set i e, s.st.set i 2, s.ring⟩ ((w.setCell ⟨Db, i, none⟩ (.int .u8 (e : Int))).setCell ⟨Tb, i, none⟩ (.int .i64 2)) ∧ KpE Ke Db Tb w ((w.setCell ⟨Db, i, none⟩ (.int .u8 (e : Int))).setCell ⟨Tb, i, none⟩ (.int .i64 2)) := by
 have hk1 : KpE Ke Db Tb w (w.setCell ⟨Db, i, none⟩ (.int .u8 (e : Int))) := Kept.setCell (Kept.refl _ _) (p := ⟨Db, i, none⟩) (Or.inl (Or.inr (Or.inl rfl))) _
 have hk : KpE Ke Db Tb w ((w.setCell ⟨Db, i, none⟩ (.int .u8 (e : Int))).setCell ⟨Tb, i, none⟩ (.int .i64 2)) := Kept.setCell hk1 (p := ⟨Tb, i, none⟩) (Or.inl (Or.inr (Or.inr rfl))) _
 refine ⟨h.move hk ?_ ?_ ?_ (by dsimp only; rw [List.length_set]) (by dsimp only; rw [List.length_set]) (fun u hu => ?_) hi (few_set h.few (by decide)), hk⟩
 ·rw [Below.heap_setCell _ _ _ _ (fun e => h.ne.2.1 (by first | exact e | exact e.symm)), Below.heap_setCell _ _ _ _ (fun e => h.ne.1 (by first | exact e | exact e.symm))]; exact h.k
 ·rw [Below.heap_setCell _ _ _ _ (fun e => h.ne.2.2 (by first | exact e | exact e.symm))]
  have := row_set h.d i (.int .u8 (e : Int))
  rw [show doesV s.does = (s.does.map fun e : Nat => Value.int .u8 (e : Int)).toArray from rfl, setV] at this
  exact this
 ·have ht : (w.setCell ⟨Db, i, none⟩ (.int .u8 (e : Int))).heap[Tb]? = some (.cells (statV s.st) 3 (0, 0)) := by
   rw [Below.heap_setCell _ _ _ _ (fun e => h.ne.2.2 (by first | exact e | exact e.symm))]; exact h.t
  have := row_set ht i (.int .i64 ((2 : Nat) : Int))
  rw [show statV s.st = (s.st.map fun e : Nat => Value.int .i64 (e : Int)).toArray from rfl, setV] at this
  exact this
 ·rcases List.mem_or_eq_of_mem_set hu with hu | rfl
  ·exact h.good u hu
  ·exact hg
theorem EfIs.ringed (h : EfIs B Kb Rb Fb Sb Ke Db Tb p s w) : EfIs B Kb Rb Fb Sb Ke Db Tb p ⟨s.does, s.st, true⟩ (w.setCell ⟨Ke, 7, none⟩ (.bool true)) ∧ KpE Ke Db Tb w (w.setCell ⟨Ke, 7, none⟩ (.bool true)) := by
 have hk : KpE Ke Db Tb w (w.setCell ⟨Ke, 7, none⟩ (.bool true)) := Kept.setCell (Kept.refl _ _) (p := ⟨Ke, 7, none⟩) (Or.inl (Or.inl rfl)) _
 refine ⟨h.move hk ?_ ?_ ?_ rfl rfl h.good h.inv h.few, hk⟩
 ·exact row_set h.k 7 (.bool true)
 ·rw [Below.heap_setCell _ _ _ _ (fun e => h.ne.1 (by first | exact e | exact e.symm))]; exact h.d
 ·rw [Below.heap_setCell _ _ _ _ (fun e => h.ne.2.1 (by first | exact e | exact e.symm))]; exact h.t
end
theorem bits_or8 : ∀ a : Nat, a < 8 → ∀ b : Nat, b < 8 → bits BinOp.or IntKind.u8 (a : Int) (b : Int) = ((a ||| b : Nat) : Int) := by decide
theorem bits_cut8 : ∀ a : Nat, a < 8 → bits BinOp.andNot IntKind.u8 (a : Int) 1 = ((a &&& 6 : Nat) : Int) := by decide
theorem bits_and8 : ∀ a : Nat, a < 8 → ∀ b : Nat, b < 8 → bits BinOp.and IntKind.u8 (a : Int) (b : Int) = ((a &&& b : Nat) : Int) := by decide
def ExE (B Kb Rb Fb Sb Ke Db Tb : Nat) (p : Pr) (z : Nat) (x : Ex) : Prop := ∀ (s : EfS) (w : World), EfIs B Kb Rb Fb Sb Ke Db Tb p s w → zer s.st ≤ z → ExIn w B x → knE p x = true →
  Calls Tryz.prog 144 #[.pointer (some ⟨Ke, 0, none⟩), x.val] w fun e w' => ∃ (n : Nat) (s' : EfS), e = .returned (.int .u8 (n : Int)) ∧ EvX p s x n s' ∧ EfIs B Kb Rb Fb Sb Ke Db Tb p s' w' ∧ KpE Ke Db Tb w w'
def OfE (B Kb Rb Fb Sb Ke Db Tb : Nat) (p : Pr) (z : Nat) : Prop := ∀ (i : Nat) (s : EfS) (w : World), i < p.fs.length → EfIs B Kb Rb Fb Sb Ke Db Tb p s w → zer s.st ≤ z →
  Calls Tryz.prog 99 #[.pointer (some ⟨Ke, 0, none⟩), .int .i64 (i : Int)] w fun e w' => ∃ (n : Nat) (s' : EfS), e = .returned (.int .u8 (n : Int)) ∧ EvO p s i n s' ∧ EfIs B Kb Rb Fb Sb Ke Db Tb p s' w' ∧ KpE Ke Db Tb w w'
def StE (B Kb Rb Fb Sb Ke Db Tb : Nat) (p : Pr) (z : Nat) (l : List St) : Prop := ∀ (d : Hd) (s : EfS) (w : World), EfIs B Kb Rb Fb Sb Ke Db Tb p s w → zer s.st ≤ z → StsIn w B d l → knSs p l = true →
  Calls Tryz.prog 140 #[.pointer (some ⟨Ke, 0, none⟩), .slice d.a l.length d.c] w fun e w' => ∃ (n : Nat) (s' : EfS), e = .returned (.int .u8 (n : Int)) ∧ EvSs p s l n s' ∧ EfIs B Kb Rb Fb Sb Ke Db Tb p s' w' ∧ KpE Ke Db Tb w w'
end Go.Proofs.YtkklogikakcanaaGreatDoor
namespace Go.Proofs.YtkklogikakcanaaGreatDoor
open Go Go.Maps Go.RowKit
set_option maxHeartbeats 4000000 in
theorem sfunc_any (B Kb Rb Fb Sb : Nat) (p : Pr) (nm : List UInt8) (w : World) (h : ScIs B Kb Rb Fb Sb p w) (hl : lenOk nm.length) :
  Calls Tryz.prog 142 #[.pointer (some ⟨Kb, 0, none⟩), .string ⟨nm.toArray⟩] w fun e w' => e = .returned (.tuple #[.int .i64 (((funOf p nm).getD 0 : Nat) : Int), .bool (funOf p nm).isSome]) ∧ Below w.heap.size w w' := by
 have hlk := intMap_look h.funs hl
 have k5 := cell_at h.k 5
 simp only [sl7, sl8, sl9] at k5
 have HBl := Lib.hid (Below.refl w.heap.size w)
 generalize (funOf p nm).getD 0 = u at *
 generalize (funOf p nm).isSome = b at *
 clear h
 go_enter Tryz.func142, Tryz.ntmps142
 go_wp2_with fail
 refine bodyPost_ret (v := .tuple #[.int .i64 (u : Int), .bool b]) (by simp [results, Tryz.results142, go_sem]) rfl ?_
 exact ⟨rfl, HBl.out⟩
theorem exC_mem : ∀ {l : List Ex} {y : Ex}, y ∈ l → exCount y ≤ exCounts l
 | x :: r, y, h => by
  rw [exCounts]
  rcases List.mem_cons.1 h with rfl | h
  ·omega
  ·have := exC_mem h; omega
def HeadE (p : Pr) (s : EfS) (k : Int) (nm : List UInt8) (n : Nat) (s' : EfS) : Prop := (k = 7 ∧ ∃ i, funOf p nm = some i ∧ EvO p s i n s') ∨ (k ≠ 7 ∧ n = efOwn p k nm ∧ s' = s)
theorem HeadE.ev {p : Pr} {s s' s2 : EfS} {k m : Int} {nm : List UInt8} {t : Ty} {d : Hd} {args : List Ex} {n es : Nat} (h : HeadE p s k nm n s') (hs : EvXs p s' args es s2) : EvX p s (.mk k m nm t d args) (n ||| es) s2 := by
 rcases h with ⟨hk, i, hi, ho⟩ | ⟨hk, rfl, rfl⟩
 ·exact .call hk hi ho hs
 ·exact .other hk hs
theorem HeadE.good {p : Pr} {s s' : EfS} {k : Int} {nm : List UInt8} {n : Nat} (h : HeadE p s k nm n s') (g : s.Good) : EfGood n := by
 rcases h with ⟨hk, i, hi, ho⟩ | ⟨hk, rfl, rfl⟩
 ·exact (ho.good g).1
 ·exact efGood_own _ _ _
theorem HeadE.le {p : Pr} {s s' : EfS} {k : Int} {nm : List UInt8} {n : Nat} (h : HeadE p s k nm n s') (g : s.Inv) : EfLe s s' := by
 rcases h with ⟨hk, i, hi, ho⟩ | ⟨hk, rfl, rfl⟩
 ·exact ho.le g
 ·exact .refl g
set_option maxHeartbeats 40000000 in
set_option maxRecDepth 100000 in
theorem expr_of (B Kb Rb Fb Sb Ke Db Tb : Nat) (p : Pr) (z : Nat) (CO : OfE B Kb Rb Fb Sb Ke Db Tb p z) : ∀ (sz : Nat) (x : Ex), exCount x ≤ sz → ExE B Kb Rb Fb Sb Ke Db Tb p z x := by
 intro sz
 induction sz with
 | zero => intro x hx; have := exCount_pos x; omega
 | succ sz ih =>
 intro x hsz s w h hz hI hkn
 have HIh : Hid (∀ y ∈ x.args, ExE B Kb Rb Fb Sb Ke Db Tb p z y) := Lib.hid fun y hy => ih y (by
  have h1 := exC_mem hy
  obtain ⟨k, n, nm, t, d, args⟩ := x
  rw [exCount] at hsz
  dsimp only [Ex.args] at h1
  omega)
 have hln := hI.len
 have hnm := hI.nm
 obtain ⟨k, n, nm, ty, d, args⟩ := x
 dsimp only [Ex.args, Ex.nm] at HIh hln hnm
 have hlen : args.length ≤ 140737488355328 := hln
 rw [knE, Bool.and_eq_true] at hkn
 obtain ⟨hkn, hkns⟩ := hkn
 have HKn : Hid (∀ y ∈ args, knE p y = true) := Lib.hid fun y hy => knEs_mem hkns hy
 obtain ⟨X, hX⟩ : ∃ X, w.heap.size = X := ⟨_, rfl⟩
 obtain ⟨w1, hw1⟩ : ∃ w1, w.alloc (.cells #[.int .u8 k, .int .i64 n, .string ⟨nm.toArray⟩, .int .u8 ty.k, .string ⟨ty.nm.toArray⟩, .int .i64 ty.n, .slice d.a args.length d.c] 70 (0, 0)) = w1 := ⟨_, rfl⟩
 have hb1 : Below w.heap.size w w1 := by rw [← hw1]; exact (Below.refl _ _).alloc (Nat.le_refl _) _
 have x1 : w1.heap[X]? = some (.cells #[.int .u8 k, .int .i64 n, .string ⟨nm.toArray⟩, .int .u8 ty.k, .string ⟨ty.nm.toArray⟩, .int .i64 ty.n, .slice d.a args.length d.c] 70 (0, 0)) := by rw [← hw1, ← hX]; exact heap_alloc_new w _
 have h1 := h.below hb1
 have HE1 := Lib.hid h1
 have HXn : Hid (¬ (X = Ke ∨ X = Db ∨ X = Tb)) := Lib.hid (by
  have a := blk_lt h.k
  have b := blk_lt h.d
  have c := blk_lt h.t
  omega)
 have HEx : Hid (∀ W, KpE Ke Db Tb w1 W → ExIn W B (.mk k n nm ty d args)) := Lib.hid fun W hk => (hI.keep (hb1.mono h.sc.le) (Nat.le_refl B)).keep (h1.blw hk) (Nat.le_refl B)
 have HRow : Hid (∀ W, KpE Ke Db Tb w1 W → W.heap[X]? = some (.cells #[.int .u8 k, .int .i64 n, .string ⟨nm.toArray⟩, .int .u8 ty.k, .string ⟨ty.nm.toArray⟩, .int .i64 ty.n, .slice d.a args.length d.c] 70 (0, 0))) := Lib.hid fun W hk => (hk.block X (blk_lt x1) HXn.out).trans x1
 have HKw : Hid (∀ W, KpE Ke Db Tb w1 W → KpE Ke Db Tb w W) := Lib.hid fun W hk => (Kept.of_below hb1).trans hk
 have HN : Hid (w.heap.size = X ∧ w.alloc (.cells #[.int .u8 k, .int .i64 n, .string ⟨nm.toArray⟩, .int .u8 ty.k, .string ⟨ty.nm.toArray⟩, .int .i64 ty.n, .slice d.a args.length d.c] 70 (0, 0)) = w1) := Lib.hid ⟨hX, hw1⟩
 have HZ := Lib.hid hz
 have CSh := Lib.hid (sshared_any B Kb Rb Fb Sb p nm w1 h1.sc hnm)
 have CFn := Lib.hid (sfunc_any B Kb Rb Fb Sb p nm w1 h1.sc hnm)
 have q0 := cell_at x1 0
 have q2 := cell_at x1 2
 have q6 := cell_at x1 6
 have k4 := cell_at h1.k 4
 simp only [sl7, sl8, sl9] at q0 q2 q6 k4
 rw [← hw1, ← hX] at q0 q2 q6
 rw [← hw1] at k4
 dsimp only [Ex.val, Ex.k, Ex.n, Ex.nm, Ex.t, Ex.d, Ex.args]
 clear hw1 hb1 x1 h h1 hI ih hX hsz hz hkns hln
 go_enter Tryz.func144, Tryz.ntmps144
 go_upto_block 0 with fail
 simp only [HN.out.1, HN.out.2] at *
 go_cut [5] from 6 (fun s5 wx => ∃ (m : Nat) (s' : EfS), s5 = .int .u8 (m : Int) ∧ Hid (HeadE p s k nm m s') ∧ Hid (EfIs B Kb Rb Fb Sb Ke Db Tb p s' wx) ∧ Hid (KpE Ke Db Tb w1 wx))
 case first =>
  have HKr : Hid (KpE Ke Db Tb w1 w1) := Lib.hid (Kept.refl _ _)
  by_cases h4 : k = 4
  ·subst h4
   go_wp2_with fail
   go_meet
   exact ⟨1, s, rfl, Lib.hid (Or.inr ⟨by decide, by simp [efOwn], rfl⟩), HE1, HKr⟩
  by_cases h5 : k = 5
  ·subst h5
   go_wp2_with fail
   go_meet
   exact ⟨1, s, rfl, Lib.hid (Or.inr ⟨by decide, by simp [efOwn], rfl⟩), HE1, HKr⟩
  by_cases h6 : k = 6
  ·subst h6
   go_wp2_with fail
   go_meet
   exact ⟨1, s, rfl, Lib.hid (Or.inr ⟨by decide, by simp [efOwn], rfl⟩), HE1, HKr⟩
  have b4 : (k == 4) = false := by simpa using h4
  have b5 : (k == 5) = false := by simpa using h5
  have b6 : (k == 6) = false := by simpa using h6
  by_cases h3 : k = 3
  ·subst h3
   have HS : Hid (w1.drew.cell? ⟨Ke, 4, none⟩ = some (.pointer (some ⟨Kb, 0, none⟩)) ∧ w1.drew.cell? ⟨X, 2, none⟩ = some (.string ⟨nm.toArray⟩)) := Lib.hid ⟨k4, q2⟩
   have CSh := Lib.hid (sshared_any B Kb Rb Fb Sb p nm w1.drew HE1.out.drew.sc hnm)
   obtain ⟨b, hb⟩ : ∃ b, (shOf p nm).isSome = b := ⟨_, rfl⟩
   rw [hb] at CSh
   have HHd : Hid (∀ n : Nat, n = (if b then 1 else 0) → HeadE p s 3 nm n s) := Lib.hid fun n hn => Or.inr ⟨by decide, by rw [hn, ← hb]; simp [efOwn], rfl⟩
   clear b4 b5 b6 h4 h5 h6 hkn hb
   go_wp2_with fail
   refine wp_region_L (l := 6) (S := (fun W => W.cell? ⟨Ke, 4, none⟩ = some (.pointer (some ⟨Kb, 0, none⟩)) ∧ W.cell? ⟨X, 2, none⟩ = some (.string ⟨nm.toArray⟩))) (by kernel_rfl) ?_ (fun hHeld => ?_)
   ·((try dsimp only); (exact HS.out))
   refine wpAnyL_take (i := 0) (oi := _) (v := ?v1) rfl (by kernel_rfl) (fun _ _ _ h => h) (by assumption) (Or.inl ⟨by kernel_rfl, ?y1⟩) ?r1
   case y1 => (intro w hSw; (try dsimp only at hSw); go_simp; all_goals with_reducible rfl)
   try simp only [sl1, sl2, sl3, Act.put, sl4, sl5, sl6]
   refine wpAnyL_take (i := 1) (oi := _) (v := ?v2) rfl (by kernel_rfl) (fun _ _ _ h => h) (by assumption) (Or.inl ⟨by kernel_rfl, ?y2⟩) ?r2
   case y2 => (intro w hSw; (try dsimp only at hSw); go_simp; all_goals with_reducible rfl)
   try simp only [sl1, sl2, sl3, Act.put, sl4, sl5, sl6]
   refine wpAnyL_take (i := 2) (oi := _) (v := ?v3) rfl (by kernel_rfl) (fun _ _ _ h => h) (by assumption) (Or.inl ⟨by kernel_rfl, ?y3⟩) ?r3
   case y3 => (intro w hSw; (try dsimp only at hSw); go_simp; all_goals with_reducible rfl)
   try simp only [sl1, sl2, sl3, Act.put, sl4, sl5, sl6]
   refine wpAnyL_take (i := 3) (oi := _) (v := ?v4) rfl (by kernel_rfl) (fun _ _ _ h => h) (by assumption) (Or.inl ⟨by kernel_rfl, ?y4⟩) ?r4
   case y4 => (intro w hSw; (try dsimp only at hSw); go_simp; all_goals with_reducible rfl)
   try simp only [sl1, sl2, sl3, Act.put, sl4, sl5, sl6]
   refine wpAnyL_take (i := 4) (oi := _) (v := ?v5) rfl (by kernel_rfl) (fun _ _ _ h => h) (by assumption) (Or.inl ⟨by kernel_rfl, ?y5⟩) ?r5
   case y5 => (intro w hSw; (try dsimp only at hSw); go_simp; all_goals with_reducible rfl)
   try simp only [sl1, sl2, sl3, Act.put, sl4, sl5, sl6]
   refine wpAnyL_take (i := 5) (oi := _) (v := ?v6) rfl (by kernel_rfl) (fun _ _ _ h => h) (by assumption) (Or.inl ⟨by kernel_rfl, ?y6⟩) ?r6
   case y6 => (intro w hSw; (try dsimp only at hSw); go_simp; all_goals with_reducible rfl)
   try simp only [sl1, sl2, sl3, Act.put, sl4, sl5, sl6]
   refine wpAnyL_last (j := 6) (o := _) (by kernel_rfl) rfl (by rfl) (by kernel_rfl) (fun K hK => ?_)
   (go_simp; go_at_call 119; refine CSh.out.mono ?_; rintro e w2 ⟨rfl, hb2⟩; have HE2 : Hid (EfIs B Kb Rb Fb Sb Ke Db Tb p s w2) := Lib.hid (HE1.out.drew.below hb2); have HK2 : Hid (KpE Ke Db Tb w1 w2) := Lib.hid (HKr.out.drew.behind hb2); clear hb2)
   (refine hK _ _ ?_; clear hK K)
   try simp only [sl1, sl2, sl3, Act.put, sl4, sl5, sl6]
   cases b with
   | true =>
    go_wp2_with fail
    go_meet
    exact ⟨1, s, rfl, Lib.hid (HHd.out 1 rfl), HE2, HK2⟩
   | false =>
    go_wp2_with fail
    go_meet
    exact ⟨0, s, rfl, Lib.hid (HHd.out 0 rfl), HE2, HK2⟩
  have b3 : (k == 3) = false := by simpa using h3
  by_cases h7 : k = 7
  ·subst h7
   obtain ⟨i, hi⟩ : ∃ i, funOf p nm = some i := by
    cases hf : funOf p nm with
    | none => rw [hf] at hkn; simp at hkn
    | some i => exact ⟨i, rfl⟩
   have HS : Hid (w1.drew.cell? ⟨Ke, 4, none⟩ = some (.pointer (some ⟨Kb, 0, none⟩)) ∧ w1.drew.cell? ⟨X, 2, none⟩ = some (.string ⟨nm.toArray⟩)) := Lib.hid ⟨k4, q2⟩
   have CFn := Lib.hid (sfunc_any B Kb Rb Fb Sb p nm w1.drew HE1.out.drew.sc hnm)
   rw [hi] at CFn
   dsimp only [Option.getD_some, Option.isSome_some] at CFn
   have HI := Lib.hid hi
   clear b3 b4 b5 b6 h3 h4 h5 h6 hkn hi
   go_wp2_with fail
   refine wp_region_L (l := 11) (S := (fun W => W.cell? ⟨Ke, 4, none⟩ = some (.pointer (some ⟨Kb, 0, none⟩)) ∧ W.cell? ⟨X, 2, none⟩ = some (.string ⟨nm.toArray⟩))) (by kernel_rfl) ?_ (fun hHeld => ?_)
   ·((try dsimp only); (exact HS.out))
   refine wpAnyL_take (i := 0) (oi := _) (v := ?v8) rfl (by kernel_rfl) (fun _ _ _ h => h) (by assumption) (Or.inl ⟨by kernel_rfl, ?y8⟩) ?r8
   case y8 => (intro w hSw; (try dsimp only at hSw); go_simp; all_goals with_reducible rfl)
   try simp only [sl1, sl2, sl3, Act.put, sl4, sl5, sl6]
   refine wpAnyL_take (i := 1) (oi := _) (v := ?v9) rfl (by kernel_rfl) (fun _ _ _ h => h) (by assumption) (Or.inl ⟨by kernel_rfl, ?y9⟩) ?r9
   case y9 => (intro w hSw; (try dsimp only at hSw); go_simp; all_goals with_reducible rfl)
   try simp only [sl1, sl2, sl3, Act.put, sl4, sl5, sl6]
   refine wpAnyL_take (i := 2) (oi := _) (v := ?v10) rfl (by kernel_rfl) (fun _ _ _ h => h) (by assumption) (Or.inl ⟨by kernel_rfl, ?y10⟩) ?r10
   case y10 => (intro w hSw; (try dsimp only at hSw); go_simp; all_goals with_reducible rfl)
   try simp only [sl1, sl2, sl3, Act.put, sl4, sl5, sl6]
   refine wpAnyL_take (i := 3) (oi := _) (v := ?v11) rfl (by kernel_rfl) (fun _ _ _ h => h) (by assumption) (Or.inl ⟨by kernel_rfl, ?y11⟩) ?r11
   case y11 => (intro w hSw; (try dsimp only at hSw); go_simp; all_goals with_reducible rfl)
   try simp only [sl1, sl2, sl3, Act.put, sl4, sl5, sl6]
   refine wpAnyL_take (i := 4) (oi := _) (v := ?v12) rfl (by kernel_rfl) (fun _ _ _ h => h) (by assumption) (Or.inl ⟨by kernel_rfl, ?y12⟩) ?r12
   case y12 => (intro w hSw; (try dsimp only at hSw); go_simp; all_goals with_reducible rfl)
   try simp only [sl1, sl2, sl3, Act.put, sl4, sl5, sl6]
   refine wpAnyL_take (i := 5) (oi := _) (v := ?v13) rfl (by kernel_rfl) (fun _ _ _ h => h) (by assumption) (Or.inl ⟨by kernel_rfl, ?y13⟩) ?r13
   case y13 => (intro w hSw; (try dsimp only at hSw); go_simp; all_goals with_reducible rfl)
   try simp only [sl1, sl2, sl3, Act.put, sl4, sl5, sl6]
   refine wpAnyL_step (j := 6) (o := _) (by kernel_rfl) rfl (fun K hK => ?_)
   (go_simp; go_at_call 142; refine CFn.out.mono ?_; rintro e w2 ⟨rfl, hb2⟩; have HE2 : Hid (EfIs B Kb Rb Fb Sb Ke Db Tb p s w2) := Lib.hid (HE1.out.drew.below hb2); have HK2 : Hid (KpE Ke Db Tb w1 w2) := Lib.hid (HKr.out.drew.behind hb2); have HS2 : Hid (w2.cell? ⟨Ke, 4, none⟩ = some (.pointer (some ⟨Kb, 0, none⟩)) ∧ w2.cell? ⟨X, 2, none⟩ = some (.string ⟨nm.toArray⟩)) := Lib.hid ⟨cell_at HE2.out.k 4, cell_at (HRow.out _ HK2.out) 2⟩; clear hb2)
   refine hK _ _ ?_ (fun hHeld => ?_)
   ·((try dsimp only); (exact HS2.out))
   clear hK K
   try simp only [sl1, sl2, sl3, Act.put, sl4, sl5, sl6]
   refine wpAnyL_take (i := 7) (oi := _) (v := ?v15) rfl (by kernel_rfl) (fun _ _ _ h => h) (by assumption) (Or.inl ⟨by kernel_rfl, ?y15⟩) ?r15
   case y15 => (intro w hSw; (try dsimp only at hSw); go_simp; all_goals with_reducible rfl)
   try simp only [sl1, sl2, sl3, Act.put, sl4, sl5, sl6]
   refine wpAnyL_take (i := 8) (oi := _) (v := ?v16) rfl (by kernel_rfl) (fun _ _ _ h => h) (by assumption) (Or.inl ⟨by kernel_rfl, ?y16⟩) ?r16
   case y16 => (intro w hSw; (try dsimp only at hSw); go_simp; all_goals with_reducible rfl)
   try simp only [sl1, sl2, sl3, Act.put, sl4, sl5, sl6]
   refine wpAnyL_take (i := 9) (oi := _) (v := ?v17) rfl (by kernel_rfl) (fun _ _ _ h => h) (by assumption) (Or.inl ⟨by kernel_rfl, ?y17⟩) ?r17
   case y17 => (intro w hSw; (try dsimp only at hSw); go_simp; all_goals with_reducible rfl)
   try simp only [sl1, sl2, sl3, Act.put, sl4, sl5, sl6]
   refine wpAnyL_take (i := 10) (oi := _) (v := ?v18) rfl (by kernel_rfl) (fun _ _ _ h => h) (by assumption) (Or.inl ⟨by kernel_rfl, ?y18⟩) ?r18
   case y18 => (intro w hSw; (try dsimp only at hSw); go_simp; all_goals with_reducible rfl)
   try simp only [sl1, sl2, sl3, Act.put, sl4, sl5, sl6]
   refine wpAnyL_last (j := 11) (o := _) (by kernel_rfl) rfl (by rfl) (by kernel_rfl) (fun K hK => ?_)
   go_simp
   (refine hK _ _ ?_; clear hK K)
   try simp only [sl1, sl2, sl3, Act.put, sl4, sl5, sl6]
   have CO2 := Lib.hid (CO i s w2 (funOf_lt HI.out) HE2.out HZ.out)
   go_wp2_with fail
   refine CO2.out.mono ?_
   rintro e w3 ⟨m, s', rfl, hev, he3, hk3⟩
   have HHd : Hid (HeadE p s 7 nm m s') := Lib.hid (Or.inl ⟨rfl, i, HI.out, hev⟩)
   have HE3 := Lib.hid he3
   have HK3 : Hid (KpE Ke Db Tb w1 w3) := Lib.hid (HK2.out.trans hk3)
   clear hev he3 hk3
   go_wp2_with fail
   go_meet
   exact ⟨m, s', rfl, HHd, HE3, HK3⟩
  have b7 : (k == 7) = false := by simpa using h7
  have HHd : Hid (HeadE p s k nm 0 s) := Lib.hid (Or.inr ⟨h7, by unfold efOwn; rw [if_neg (by omega), if_neg h3], rfl⟩)
  clear h3 h4 h5 h6 h7
  go_wp2_with fail
  go_meet
  exact ⟨0, s, rfl, HHd, HE1, HKr⟩
 case rest =>
  obtain ⟨m0, s0, rfl, HHd, HE0, HK0⟩ := hcut
  clear q0 q2 q6 k4
  have q6 := cell_at (HRow.out _ HK0.out) 6
  simp only [sl7, sl8, sl9] at q6
  have HAc0 : Hid (m0 < 8 ∧ zer s0.st ≤ z ∧ ∀ es s2, EvXs p s0 (args.drop 0) es s2 → EvX p s (.mk k n nm ty d args) (m0 ||| es) s2) := Lib.hid ⟨(HHd.out.good HE1.out.good).1, Nat.le_trans ((HHd.out.le HE1.out.inv).zer HE1.out.few) HZ.out, fun es s2 hs => HHd.out.ev (by rw [List.drop_zero] at hs; exact hs)⟩
  clear HHd HE1 CSh CFn CO hkn
  go_wp2_with fail
  clear q6
  go_loopw [5, 43] (fun ee ii wr => ∃ (j m : Nat) (s' : EfS), ee = .int .u8 (m : Int) ∧ ii = .int .i64 j ∧ j ≤ args.length ∧ Hid (m < 8 ∧ zer s'.st ≤ z ∧ ∀ es s2, EvXs p s' (args.drop j) es s2 → EvX p s (.mk k n nm ty d args) (m ||| es) s2) ∧ Hid (EfIs B Kb Rb Fb Sb Ke Db Tb p s' wr) ∧ Hid (KpE Ke Db Tb w1 wr)) (fun _ ii _ => args.length - (intOf ii).toNat)
  case atStart => exact ⟨0, m0, s0, rfl, rfl, Nat.zero_le _, HAc0, HE0, HK0⟩
  case round =>
   obtain ⟨j, m, s', rfl, rfl, hj, hAc, hE, hK⟩ := hrel
   clear HAc0 HE0 HK0
   have p2 : (0 : Int) ≤ (j : Int) := Int.natCast_nonneg _
   by_cases hlt : j < args.length
   ·obtain ⟨y, hy⟩ : ∃ y, args[j]? = some y := ⟨_, List.getElem?_eq_getElem hlt⟩
    have hdrop : args.drop j = y :: args.drop (j + 1) := by
     have := List.drop_eq_getElem_cons hlt
     rw [List.getElem?_eq_getElem hlt] at hy
     injection hy with hy
     rw [this, hy]
    have hmem := List.mem_of_getElem? hy
    have hIr := HEx.out _ hK.out
    obtain ⟨rb, ro, hda, hrb, hrow⟩ := hIr.row (by intro h0; have h1 : args = [] := h0; rw [h1] at hlt; simp at hlt)
    obtain ⟨z0, z1, z2, z3, z4, z5, z6⟩ := hrow j y hy
    have hda2 : d.a = some ⟨rb, ro, none⟩ := hda
    have hyI := hIr.sub y hmem
    obtain ⟨Z, hZ⟩ : ∃ Z, wr.heap.size = Z := ⟨_, rfl⟩
    obtain ⟨w6, hw6⟩ : ∃ w6, wr.alloc (.cells #[.int .u8 y.k, .int .i64 y.n, .string ⟨y.nm.toArray⟩, .int .u8 y.t.k, .string ⟨y.t.nm.toArray⟩, .int .i64 y.t.n, .slice y.d.a y.args.length y.d.c] 70 (0, 0)) = w6 := ⟨_, rfl⟩
    have hb6 : Below wr.heap.size wr w6 := by rw [← hw6]; exact (Below.refl _ _).alloc (Nat.le_refl _) _
    have HK6 : Hid (KpE Ke Db Tb w1 w6) := Lib.hid (hK.out.behind hb6)
    have C := Lib.hid (HIh.out y hmem s' w6 (hE.out.below hb6) hAc.out.2.1 (hyI.keep (hb6.mono hE.out.sc.le) (Nat.le_refl B)) (HKn.out y hmem))
    have HAc : Hid (m < 8 ∧ (∀ e s1, EvX p s' y e s1 → e < 8 ∧ zer s1.st ≤ z ∧ (∀ es s2, EvXs p s1 (args.drop (j + 1)) es s2 → EvX p s (.mk k n nm ty d args) ((m ||| e) ||| es) s2))) := Lib.hid ⟨hAc.out.1, fun e s1 hx => ⟨(hx.good hE.out.good).1.1, Nat.le_trans ((hx.le hE.out.inv).zer hE.out.few) hAc.out.2.1, fun es s2 hs => by
     rw [Nat.or_assoc]
     exact hAc.out.2.2 _ _ (by rw [hdrop]; exact .cons hx hs)⟩⟩
    have p1 : (j : Int) < (args.length : Int) := by omega
    have HN6 := Lib.hid (And.intro hZ hw6)
    clear hb6 hrow hIr hdrop hmem hda hyI hZ hw6 hK hE hAc hrb hy
    rw [hda2]
    go_wp2_with fail
    simp only [HN6.out.1, HN6.out.2]
    clear z0 z1 z2 z3 z4 z5 z6 hda2
    refine C.out.mono ?_
    rintro e w7 ⟨m2, s2, rfl, hev, he7, hk7⟩
    obtain ⟨hm2, hz2, hac2⟩ := HAc.out.2 _ _ hev
    have HE7 := Lib.hid he7
    have HK7 : Hid (KpE Ke Db Tb w1 w7) := Lib.hid (HK6.out.trans hk7)
    have HAn : Hid (m ||| m2 < 8 ∧ zer s2.st ≤ z ∧ ∀ es s3, EvXs p s2 (args.drop (j + 1)) es s3 → EvX p s (.mk k n nm ty d args) ((m ||| m2) ||| es) s3) := Lib.hid ⟨Nat.or_lt_two_pow (n := 3) HAc.out.1 hm2, hz2, hac2⟩
    have HBt : Hid (m < 8 ∧ m2 < 8) := Lib.hid ⟨HAc.out.1, hm2⟩
    clear hev he7 hk7 hac2 hm2 hz2 C
    go_wp2_with fail
    go_roundw
    case rel => exact ⟨j + 1, m ||| m2, s2, by rw [bits_or8 _ HBt.out.1 _ HBt.out.2], by go_num, by omega, HAn, HE7, HK7⟩
    case measure => simp [intOf]; omega
   ·obtain rfl : j = args.length := by omega
    have HF : Hid (EvX p s (.mk k n nm ty d args) m s') := Lib.hid (by
     have h := hAc.out.2.2 0 s' (by rw [List.drop_length]; exact .nil)
     rwa [Nat.or_zero] at h)
    have HF2 : Hid (KpE Ke Db Tb w wr) := Lib.hid (HKw.out _ hK.out)
    clear hAc hK
    go_wp2_with fail
    go_ret
    exact ⟨m, s', rfl, HF.out, hE.out, HF2.out⟩
end Go.Proofs.YtkklogikakcanaaGreatDoor
