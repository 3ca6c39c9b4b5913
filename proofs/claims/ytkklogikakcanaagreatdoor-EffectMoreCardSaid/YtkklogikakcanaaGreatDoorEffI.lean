import Derived.Test.YtkklogikakcanaaGreatDoorEffC
import Derived.Laws.EntriesVeiled
import Derived.Test.YtkklogikakcanaaGreatDoorEffF
import Derived.Test.YtkklogikakcanaaGreatDoorEffG
import Derived.Test.YtkklogikakcanaaGreatDoorEachA
import Derived.Test.YtkklogikakcanaaGreatDoorScopeI
set_option linter.unusedVariables false
set_option linter.unusedSimpArgs false
open List renaming getElem_toArray → sl1, getElem_cons_zero → sl2, getElem_cons_succ → sl3, setIfInBounds_toArray → sl4, set_cons_zero → sl5, set_cons_succ → sl6, getElem?_toArray → sl7, getElem?_cons_zero → sl8, getElem?_cons_succ → sl9
namespace Go.Proofs.YtkklogikakcanaaGreatDoor
open Go Go.Maps Go.RowKit
mutual
theorem exCl_len (p : Pr) : ∀ x : Ex, (exCl p x).length ≤ exCount x
 | .mk k n nm t d args => by
  rw [exCl, exCount, List.length_append]
  have := exCls_len p args
  split
  ·simp; omega
  ·simp; omega
theorem exCls_len (p : Pr) : ∀ l : List Ex, (exCls p l).length ≤ exCounts l
 | [] => by rw [exCls]; simp
 | x :: r => by
  rw [exCls, exCounts, List.length_append]
  have := exCl_len p x
  have := exCls_len p r
  omega
end
theorem exCl_given (p : Pr) (x : Ex) : (exCl p x).length ≤ exGiven x := by
 unfold exGiven
 split
 ·next h =>
  obtain ⟨k, n, nm, t, d, args⟩ := x
  simp only [noEx, Bool.and_eq_true, List.isEmpty_iff] at h
  obtain rfl : k = 0 := of_decide_eq_true h.1
  obtain rfl : args = [] := h.2.2.2.2
  rw [exCl, exCls]
  simp
 ·exact exCl_len p x
mutual
theorem stCl_len (p : Pr) : ∀ s : St, (stCl p s).length ≤ stCount s
 | .mk k nm t x y bd body ed els => by
  rw [stCl, stCount]
  simp only [List.length_append]
  have := exCl_given p x
  have := exCl_given p y
  have := stCls_len p body
  have := stCls_len p els
  omega
theorem stCls_len (p : Pr) : ∀ l : List St, (stCls p l).length ≤ stCounts l
 | [] => by rw [stCls]; simp
 | s :: r => by
  rw [stCls, stCounts, List.length_append]
  have := stCl_len p s
  have := stCls_len p r
  omega
end
structure KpI (Bo Ob : Nat) (w w' : World) : Prop where
 os : w'.os = w.os
 tape : w'.tape = w.tape
 output : w'.output = w.output
 size : w.heap.size ≤ w'.heap.size
 block : ∀ k, k < w.heap.size → (k < Bo ∨ (k ≠ Ob ∧ ∀ cs fz, w.heap[k]? ≠ some (.cells cs 3 fz))) → w'.heap[k]? = w.heap[k]?
section
variable {Bo Ob : Nat} {w w' a b c : World}
theorem KpI.refl (Bo Ob : Nat) (w : World) : KpI Bo Ob w w := ⟨rfl, rfl, rfl, Nat.le_refl _, fun _ _ _ => rfl⟩
theorem KpI.trans (h : KpI Bo Ob a b) (h2 : KpI Bo Ob b c) : KpI Bo Ob a c :=
 ⟨h2.os.trans h.os, h2.tape.trans h.tape, h2.output.trans h.output, Nat.le_trans h.size h2.size, fun k hk hc => by
  have e := h.block k hk hc
  refine (h2.block k (Nat.lt_of_lt_of_le hk h.size) ?_).trans e
  rcases hc with hc | ⟨hc1, hc2⟩
  ·exact Or.inl hc
  ·exact Or.inr ⟨hc1, fun cs fz => by rw [e]; exact hc2 cs fz⟩⟩
theorem KpI.of_below (hb : Below w.heap.size w w') : KpI Bo Ob w w' := ⟨hb.os, hb.tape, hb.output, hb.size, fun k hk _ => hb.block k hk⟩
theorem KpI.behind (h : KpI Bo Ob a w) (hb : Below w.heap.size w w') : KpI Bo Ob a w' := h.trans (.of_below hb)
theorem KpI.blw (h : KpI Bo Ob w w') (hB : Bo ≤ w.heap.size) : Below Bo w w' := ⟨h.os, h.tape, h.output, h.size, fun k hk => h.block k (by omega) (Or.inl hk)⟩
theorem KpI.keep (h : KpI Bo Ob w w') {k : Nat} {o : Obj} (hk : w.heap[k]? = some o) (h1 : k ≠ Ob) (h2 : ∀ cs fz, o ≠ .cells cs 3 fz) : w'.heap[k]? = some o :=
 (h.block k (blk_lt hk) (Or.inr ⟨h1, fun cs fz e => by rw [hk] at e; injection e with e; exact h2 cs fz e⟩)).trans hk
end
abbrev numV (l : List Nat) : List Value := l.map fun n : Nat => Value.int .i64 (n : Int)
def OutAt (Bo Ob : Nat) (xs : List Nat) (w : World) : Prop := ∃ v, w.heap[Ob]? = some (.cells #[v] 56 (0, 0)) ∧ w.ownsRow Bo 3 1 v xs.length (numV xs)
theorem own_of_block {w w' : World} {Bo : Nat} {e : TypeId} {v : Value} {n : Nat} {xs : List Value} (h : w.ownsRow Bo e 1 v n xs) (hb : ∀ (k : Nat) (o : Obj), w.heap[k]? = some o → w'.heap[k]? = some o) : w'.ownsRow Bo e 1 v n xs := by
 refine ⟨h.1, ?_⟩
 rcases h.2 with h | ⟨g, cap, cur, hv, hb2, hg, r⟩
 ·exact Or.inl h
 ·exact Or.inr ⟨g, cap, cur, hv, hb2, hb g _ hg, r⟩
theorem OutAt.below {Bo Ob : Nat} {xs : List Nat} {w w' : World} (h : OutAt Bo Ob xs w) (hb : Below w.heap.size w w') : OutAt Bo Ob xs w' := by
 obtain ⟨v, h1, h2⟩ := h
 have hk : ∀ (k : Nat) (o : Obj), w.heap[k]? = some o → w'.heap[k]? = some o := fun k o e => (hb.block k (blk_lt e)).trans e
 exact ⟨v, hk _ _ h1, own_of_block h2 hk⟩
theorem OutAt.lt {Bo Ob : Nat} {xs : List Nat} {w : World} (h : OutAt Bo Ob xs w) : Ob < w.heap.size := by obtain ⟨v, h1, -⟩ := h; exact blk_lt h1
theorem out_step {Bo Ob m : Nat} {xs : List Nat} {v v' : Value} {w w5 w6 : World} (hBo : Bo ≤ Ob) (h1 : w.heap[Ob]? = some (.cells #[v] 56 (0, 0))) (ho : w.ownsRow Bo 3 1 v xs.length (numV xs)) (hb5 : Below w.heap.size w w5)
  (ho6 : w6.ownsRow Bo 3 1 v' (xs.length + 1) (numV xs ++ [.int .i64 (m : Int)])) (hg : w5.grownBy w6 v.ownBlock) :
  w6.heap[Ob]? = some (.cells #[v] 56 (0, 0)) ∧ OutAt Bo Ob (xs ++ [m]) (w6.setCell ⟨Ob, 0, none⟩ v') ∧ KpI Bo Ob w (w6.setCell ⟨Ob, 0, none⟩ v') := by
 have hrow : ∀ k, v.ownBlock = some k → Bo ≤ k ∧ ∃ cs fz, w.heap[k]? = some (.cells cs 3 fz) := fun k hk => by
  rcases ho.2 with ⟨rfl, -⟩ | ⟨g, cap, cur, rfl, hb, hgg, -⟩
  ·cases hk
  ·injection hk with hk
   subst hk
   exact ⟨hb, _, _, hgg⟩
 have hne : v.ownBlock ≠ some Ob := fun e => by
  obtain ⟨-, cs, fz, h⟩ := hrow _ e
  rw [h1] at h
  simp at h
 have h5 := (hb5.block Ob (blk_lt h1)).trans h1
 have h6 := (hg.block Ob (blk_lt h5) (fun e => hne e.symm)).trans h5
 refine ⟨h6, ⟨v', ?_, ?_⟩, ?_⟩
 ·have := row_set h6 0 v'
  simpa using this
 ·refine ⟨by simp, ?_⟩
  rcases ho6.2 with ⟨-, h⟩ | ⟨g, cap, cur, rfl, hb, hgg, r1, r2, r3, r4⟩
  ·simp at h
  ·refine Or.inr ⟨g, cap, cur, by simp, hb, ?_, by simpa using r1, r2, r3, by simpa using r4⟩
   rw [Below.heap_setCell _ _ _ _ (fun e => by
    have e2 : g = Ob := by first | exact e | exact e.symm
    rw [e2, h6] at hgg; simp at hgg)]
   exact hgg
 ·refine ⟨hg.os.trans hb5.os, hg.tape.trans hb5.tape, hg.output.trans hb5.output, by simpa [World.setCell] using Nat.le_trans hb5.size hg.size, fun k hk hc => ?_⟩
  have hkO : k ≠ Ob := by rcases hc with hc | hc; omega; exact hc.1
  rw [Below.heap_setCell _ _ _ _ (fun e => hkO (by first | exact e | exact e.symm))]
  refine (hg.block k (Nat.lt_of_lt_of_le hk hb5.size) (fun e => ?_)).trans (hb5.block k hk)
  obtain ⟨hb, cs, fz, h⟩ := hrow k e.symm
  rcases hc with hc | hc
  ·omega
  ·exact hc.2 cs fz h
structure CcAt (K2 Ob Ec Ke : Nat) (w : World) : Prop where
 k : w.heap[K2]? = some (.cells #[.pointer (some ⟨Ke, 0, none⟩)] 95 (0, 0))
 e : w.heap[Ec]? = some (.cells #[.func (.func 141) #[] #[.pointer (some ⟨K2, 0, none⟩), .pointer (some ⟨Ob, 0, none⟩), .pointer (some ⟨Ec, 0, none⟩)]] 198 (0, 0))
 ne : K2 ≠ Ob ∧ Ec ≠ Ob
theorem CcAt.kept {K2 Ob Ec Ke Bo : Nat} {w w' : World} (h : CcAt K2 Ob Ec Ke w) (hk : KpI Bo Ob w w') : CcAt K2 Ob Ec Ke w' :=
 ⟨hk.keep h.k h.ne.1 (fun cs fz e => by simp at e), hk.keep h.e h.ne.2 (fun cs fz e => by simp at e), h.ne⟩
end Go.Proofs.YtkklogikakcanaaGreatDoor
namespace Go.Proofs.YtkklogikakcanaaGreatDoor
open Go Go.Maps Go.RowKit
set_option maxHeartbeats 40000000 in
set_option maxRecDepth 100000 in
theorem callsE_any (B Kb Rb Fb Sb Ke Db Tb Bo K2 Ob Ec : Nat) (p : Pr) (s : EfS) (w0 : World) (h0 : EfIs B Kb Rb Fb Sb Ke Db Tb p s w0) (hBo : w0.heap.size = Bo) (hOb : Bo ≤ Ob) : ∀ (sz : Nat) (x : Ex), exCount x ≤ sz → ∀ (xs : List Nat) (w : World), Below Bo w0 w → CcAt K2 Ob Ec Ke w → OutAt Bo Ob xs w → ExIn w B x → knE p x = true → xs.length + (exCl p x).length ≤ 1000000 →
  Calls Tryz.prog 141 #[x.val, .pointer (some ⟨K2, 0, none⟩), .pointer (some ⟨Ob, 0, none⟩), .pointer (some ⟨Ec, 0, none⟩)] w fun e w' => e = .returned (.tuple #[]) ∧ OutAt Bo Ob (xs ++ exCl p x) w' ∧ KpI Bo Ob w w' := by
 intro sz
 induction sz with
 | zero => intro x hx; have := exCount_pos x; omega
 | succ sz ih =>
 intro x hsz xs w hB0 hCc hO hI hkn hxl
 have HIh : Hid (∀ y ∈ x.args, ∀ (xs : List Nat) (w : World), Below Bo w0 w → CcAt K2 Ob Ec Ke w → OutAt Bo Ob xs w → ExIn w B y → knE p y = true → xs.length + (exCl p y).length ≤ 1000000 →
  Calls Tryz.prog 141 #[y.val, .pointer (some ⟨K2, 0, none⟩), .pointer (some ⟨Ob, 0, none⟩), .pointer (some ⟨Ec, 0, none⟩)] w fun e w' => e = .returned (.tuple #[]) ∧ OutAt Bo Ob (xs ++ exCl p y) w' ∧ KpI Bo Ob w w') := Lib.hid fun y hy => ih y (by
  have h1 := exC_mem hy
  obtain ⟨k, n, nm, t, d, args⟩ := x
  rw [exCount] at hsz
  dsimp only [Ex.args] at h1
  omega)
 have hln := hI.len
 have hnm := hI.nm
 obtain ⟨k, n, nm, ty, d, args⟩ := x
 dsimp only [Ex.args, Ex.nm] at HIh hln hnm
 have hlen : args.length ≤ 140737488355328 := hln
 rw [knE, Bool.and_eq_true] at hkn
 obtain ⟨hkn, hkns⟩ := hkn
 have HKn : Hid (∀ y ∈ args, knE p y = true) := Lib.hid fun y hy => knEs_mem hkns hy
 obtain ⟨X, hX⟩ : ∃ X, w.heap.size = X := ⟨_, rfl⟩
 obtain ⟨w1, hw1⟩ : ∃ w1, w.alloc (.cells #[.int .u8 k, .int .i64 n, .string ⟨nm.toArray⟩, .int .u8 ty.k, .string ⟨ty.nm.toArray⟩, .int .i64 ty.n, .slice d.a args.length d.c] 70 (0, 0)) = w1 := ⟨_, rfl⟩
 have hb1 : Below w.heap.size w w1 := by rw [← hw1]; exact (Below.refl _ _).alloc (Nat.le_refl _) _
 have x1 : w1.heap[X]? = some (.cells #[.int .u8 k, .int .i64 n, .string ⟨nm.toArray⟩, .int .u8 ty.k, .string ⟨ty.nm.toArray⟩, .int .i64 ty.n, .slice d.a args.length d.c] 70 (0, 0)) := by rw [← hw1, ← hX]; exact heap_alloc_new w _
 have hBw : Bo ≤ w.heap.size := by have := hB0.size; omega
 have hBw1 : Below Bo w0 w1 := hB0.trans (hb1.mono hBw)
 have hBw1s : Bo ≤ w1.heap.size := Nat.le_trans hBw hb1.size
 have HBo : Hid (∀ W, KpI Bo Ob w1 W → Below Bo w0 W) := Lib.hid fun W hk => hBw1.trans (hk.blw hBw1s)
 have HEf : Hid (∀ W, KpI Bo Ob w1 W → EfIs B Kb Rb Fb Sb Ke Db Tb p s W) := Lib.hid fun W hk => h0.below (by rw [hBo]; exact HBo.out W hk)
 have HCc : Hid (∀ W, KpI Bo Ob w1 W → CcAt K2 Ob Ec Ke W) := Lib.hid fun W hk => (hCc.kept (KpI.of_below (Bo := Bo) hb1)).kept hk
 have hBB : B ≤ Bo := by rw [← hBo]; exact h0.sc.le
 have HEx : Hid (∀ W, KpI Bo Ob w1 W → ExIn W B (.mk k n nm ty d args)) := Lib.hid fun W hk => hI.keep ((hb1.mono hBw).trans (hk.blw hBw1s) |>.mono hBB) (Nat.le_refl B)
 have hXO : X ≠ Ob := by have := hO.lt; omega
 have HRow : Hid (∀ W, KpI Bo Ob w1 W → W.heap[X]? = some (.cells #[.int .u8 k, .int .i64 n, .string ⟨nm.toArray⟩, .int .u8 ty.k, .string ⟨ty.nm.toArray⟩, .int .i64 ty.n, .slice d.a args.length d.c] 70 (0, 0))) := Lib.hid fun W hk => hk.keep x1 hXO (fun cs fz e => by simp at e)
 have HKw : Hid (∀ W, KpI Bo Ob w1 W → KpI Bo Ob w W) := Lib.hid fun W hk => (KpI.of_below hb1).trans hk
 have HN := Lib.hid (And.intro hX hw1)
 have HO1 := Lib.hid (hO.below hb1)
 obtain ⟨R, hR⟩ : ∃ R, xs ++ exCl p (.mk k n nm ty d args) = R := ⟨_, rfl⟩
 rw [hR]
 have HRl : Hid (R.length ≤ 1000000) := Lib.hid (by rw [← hR, List.length_append]; exact hxl)
 rw [exCl] at hR
 have q0 := cell_at x1 0
 simp only [sl7, sl8] at q0
 rw [← hw1, ← hX] at q0
 have hef1 := HEf.out _ (KpI.refl _ _ w1)
 have HS : Hid (w1.drew.cell? ⟨K2, 0, none⟩ = some (.pointer (some ⟨Ke, 0, none⟩)) ∧ w1.drew.cell? ⟨Ke, 4, none⟩ = some (.pointer (some ⟨Kb, 0, none⟩)) ∧ w1.drew.cell? ⟨X, 2, none⟩ = some (.string ⟨nm.toArray⟩)) :=
  Lib.hid ⟨cell_at (HCc.out _ (KpI.refl _ _ w1)).k 0, cell_at hef1.k 4, cell_at x1 2⟩
 have CFn := Lib.hid (sfunc_any B Kb Rb Fb Sb p nm w1.drew hef1.drew.sc hnm)
 have HBO := Lib.hid hOb
 dsimp only [Ex.val, Ex.k, Ex.n, Ex.nm, Ex.t, Ex.d, Ex.args]
 clear hw1 hb1 x1 h0 hI ih hX hsz hkns hln hB0 hCc hO hBw hBw1 hBw1s hBB hXO hBo hOb hef1 hxl
 by_cases h7 : k = 7
 ·subst h7
  obtain ⟨i, hi⟩ : ∃ i, funOf p nm = some i := by
   cases hf : funOf p nm with
   | none => rw [hf] at hkn; simp at hkn
   | some i => exact ⟨i, rfl⟩
  rw [hi] at CFn
  dsimp only [Option.getD_some, Option.isSome_some] at CFn
  rw [if_pos rfl, hi, Option.getD_some] at hR
  have HR : Hid ((xs ++ [i]) ++ exCls p (args.drop 0) = R) := Lib.hid (by rw [List.drop_zero, List.append_assoc]; exact hR)
  clear hR hkn hi
  go_enter Tryz.func141, Tryz.ntmps141
  go_wp2_with fail
  simp only [HN.out.1, HN.out.2]
  refine wp_region_L (l := 11) (S := (fun W => W.cell? ⟨K2, 0, none⟩ = some (.pointer (some ⟨Ke, 0, none⟩)) ∧ W.cell? ⟨Ke, 4, none⟩ = some (.pointer (some ⟨Kb, 0, none⟩)) ∧ W.cell? ⟨X, 2, none⟩ = some (.string ⟨nm.toArray⟩))) (by kernel_rfl) ?_ (fun hHeld => ?_)
  ·((try dsimp only); (exact HS.out))
  refine wpAnyL_take (i := 0) (oi := _) (v := ?v1) rfl (by kernel_rfl) (fun _ _ _ h => h) (by assumption) (Or.inl ⟨by kernel_rfl, ?y1⟩) ?r1
  case y1 => (intro w hSw; (try dsimp only at hSw); go_simp; all_goals with_reducible rfl)
  try simp only [sl1, sl2, sl3, Act.put, sl4, sl5, sl6]
  refine wpAnyL_take (i := 1) (oi := _) (v := ?v2) rfl (by kernel_rfl) (fun _ _ _ h => h) (by assumption) (Or.inl ⟨by kernel_rfl, ?y2⟩) ?r2
  case y2 => (intro w hSw; (try dsimp only at hSw); go_simp; all_goals with_reducible rfl)
  try simp only [sl1, sl2, sl3, Act.put, sl4, sl5, sl6]
  refine wpAnyL_take (i := 2) (oi := _) (v := ?v3) rfl (by kernel_rfl) (fun _ _ _ h => h) (by assumption) (Or.inl ⟨by kernel_rfl, ?y3⟩) ?r3
  case y3 => (intro w hSw; (try dsimp only at hSw); go_simp; all_goals with_reducible rfl)
  try simp only [sl1, sl2, sl3, Act.put, sl4, sl5, sl6]
  refine wpAnyL_take (i := 3) (oi := _) (v := ?v4) rfl (by kernel_rfl) (fun _ _ _ h => h) (by assumption) (Or.inl ⟨by kernel_rfl, ?y4⟩) ?r4
  case y4 => (intro w hSw; (try dsimp only at hSw); go_simp; all_goals with_reducible rfl)
  try simp only [sl1, sl2, sl3, Act.put, sl4, sl5, sl6]
  refine wpAnyL_take (i := 4) (oi := _) (v := ?v5) rfl (by kernel_rfl) (fun _ _ _ h => h) (by assumption) (Or.inl ⟨by kernel_rfl, ?y5⟩) ?r5
  case y5 => (intro w hSw; (try dsimp only at hSw); go_simp; all_goals with_reducible rfl)
  try simp only [sl1, sl2, sl3, Act.put, sl4, sl5, sl6]
  refine wpAnyL_take (i := 5) (oi := _) (v := ?v6) rfl (by kernel_rfl) (fun _ _ _ h => h) (by assumption) (Or.inl ⟨by kernel_rfl, ?y6⟩) ?r6
  case y6 => (intro w hSw; (try dsimp only at hSw); go_simp; all_goals with_reducible rfl)
  try simp only [sl1, sl2, sl3, Act.put, sl4, sl5, sl6]
  refine wpAnyL_step (j := 6) (o := _) (by kernel_rfl) rfl (fun K hK => ?_)
  (go_simp; go_at_call 142; refine CFn.out.mono ?_; rintro e w2 ⟨rfl, hb2⟩; have HB2 : Hid (Below w1.heap.size w1 w2) := Lib.hid ((Below.refl _ w1).drew.trans hb2); have HS2 : Hid (w2.cell? ⟨K2, 0, none⟩ = some (.pointer (some ⟨Ke, 0, none⟩)) ∧ w2.cell? ⟨Ke, 4, none⟩ = some (.pointer (some ⟨Kb, 0, none⟩)) ∧ w2.cell? ⟨X, 2, none⟩ = some (.string ⟨nm.toArray⟩)) := Lib.hid ⟨cell_at (HCc.out _ (KpI.of_below HB2.out)).k 0, cell_at (HEf.out _ (KpI.of_below HB2.out)).k 4, cell_at (HRow.out _ (KpI.of_below HB2.out)) 2⟩; clear hb2)
  refine hK _ _ ?_ (fun hHeld => ?_)
  ·((try dsimp only); (exact HS2.out))
  clear hK K
  try simp only [sl1, sl2, sl3, Act.put, sl4, sl5, sl6]
  refine wpAnyL_take (i := 7) (oi := _) (v := ?v8) rfl (by kernel_rfl) (fun _ _ _ h => h) (by assumption) (Or.inl ⟨by kernel_rfl, ?y8⟩) ?r8
  case y8 => (intro w hSw; (try dsimp only at hSw); go_simp; all_goals with_reducible rfl)
  try simp only [sl1, sl2, sl3, Act.put, sl4, sl5, sl6]
  refine wpAnyL_take (i := 8) (oi := _) (v := ?v9) rfl (by kernel_rfl) (fun _ _ _ h => h) (by assumption) (Or.inl ⟨by kernel_rfl, ?y9⟩) ?r9
  case y9 => (intro w hSw; (try dsimp only at hSw); go_simp; all_goals with_reducible rfl)
  try simp only [sl1, sl2, sl3, Act.put, sl4, sl5, sl6]
  refine wpAnyL_take (i := 9) (oi := _) (v := ?v10) rfl (by kernel_rfl) (fun _ _ _ h => h) (by assumption) (Or.inl ⟨by kernel_rfl, ?y10⟩) ?r10
  case y10 => (intro w hSw; (try dsimp only at hSw); go_simp; all_goals with_reducible rfl)
  try simp only [sl1, sl2, sl3, Act.put, sl4, sl5, sl6]
  refine wpAnyL_take (i := 10) (oi := _) (v := ?v11) rfl (by kernel_rfl) (fun _ _ _ h => h) (by assumption) (Or.inl ⟨by kernel_rfl, ?y11⟩) ?r11
  case y11 => (intro w hSw; (try dsimp only at hSw); go_simp; all_goals with_reducible rfl)
  try simp only [sl1, sl2, sl3, Act.put, sl4, sl5, sl6]
  refine wpAnyL_last (j := 11) (o := _) (by kernel_rfl) rfl (by rfl) (by kernel_rfl) (fun K hK => ?_)
  go_simp
  (refine hK _ _ ?_; clear hK K)
  try simp only [sl1, sl2, sl3, Act.put, sl4, sl5, sl6]
  clear hHeld HS HS2 CFn q0
  obtain ⟨v, hv1, hv2⟩ := HO1.out.below HB2.out
  have c0 := cell_at hv1 0
  simp only [sl7, sl8] at c0
  have HV1 := Lib.hid hv1
  have HV2 := Lib.hid hv2
  have hb5 : Below w2.heap.size w2 (w2.alloc (.cells #[.int .i64 (i : Int)] 3 (0, 0))) := (Below.refl _ _).alloc (Nat.le_refl _) _
  have HV5 : Hid ((w2.alloc (.cells #[.int .i64 (i : Int)] 3 (0, 0))).ownsRow Bo 3 1 v xs.length (numV xs) ∧ Bo ≤ (w2.alloc (.cells #[.int .i64 (i : Int)] 3 (0, 0))).heap.size) := Lib.hid ⟨own_of_block hv2 (fun k o e => (hb5.block k (blk_lt e)).trans e), by have := hb5.size; have := blk_lt hv1; have := HBO.out; omega⟩
  have HB5 := Lib.hid hb5
  have HLen : Hid (xs.length + 1 ≤ 1000000) := Lib.hid (by have h := congrArg List.length HR.out; simp only [List.length_append, List.length_cons, List.length_nil] at h; have := HRl.out; omega)
  obtain ⟨i0, hi0, hz0, hz1, hz2⟩ := info_parts infoInt
  clear hv1 hv2 hb5
  go_wp2_with (at_builtin; refine wpList_append_own _ rfl _ _ 56 rfl Bo 3 i0 _ 1 8 Tryz.underlying56 hi0 hz0 hz1 hz2 rfl (by decide) v xs.length (numV xs) rfl HV5.out.1 ⟨w2.heap.size, 0, none⟩ 1 1 [.int .i64 (i : Int)] rfl rfl (cell_one_new _ _ _) (by simp [Value.oneCell']) (by have := HLen.out; unfold maxLen; omega) (by have := HLen.out; omega) HV5.out.2 ?_)
  intro v' w6 hown hgrow hnil
  clear hnil
  obtain ⟨gg, cp, rfl⟩ : ∃ gg cp, v' = .slice (some ⟨gg, 0, none⟩) (xs.length + 1) cp := hown.2.elim (fun h => absurd h.2 (by omega)) (fun ⟨gg, cp, cur, h, _⟩ => ⟨gg, cp, h⟩)
  have HT := Lib.hid (out_step HBO.out HV1.out HV2.out HB5.out hown hgrow)
  have c6 := cell_at HT.out.1 0
  have f6 := frz_at HT.out.1 0
  simp only [sl7, sl8] at c6
  clear hown hgrow c0 HV5 HB5 hi0 hz0 hz1 hz2
  have HO0 : Hid (OutAt Bo Ob (xs ++ [i]) (w6.setCell ⟨Ob, 0, none⟩ (.slice (some ⟨gg, 0, none⟩) (xs.length + 1) cp))) := Lib.hid HT.out.2.1
  have HQ0 : Hid (xs ++ [i] ++ exCls p (args.drop 0) = R) := HR
  have HK0 : Hid (KpI Bo Ob w1 (w6.setCell ⟨Ob, 0, none⟩ (.slice (some ⟨gg, 0, none⟩) (xs.length + 1) cp))) := Lib.hid ((KpI.of_below HB2.out).trans HT.out.2.2)
  have q6 := cell_at (HRow.out _ HK0.out) 6
  simp only [sl7, sl8, sl9] at q6
  go_wp2_with fail
  clear q6
  go_loopw [29] (fun ii wr => ∃ (j : Nat) (ys : List Nat), ii = .int .i64 j ∧ j ≤ args.length ∧ Hid (OutAt Bo Ob ys wr) ∧ Hid (ys ++ exCls p (args.drop j) = R) ∧ Hid (KpI Bo Ob w1 wr)) (fun ii _ => args.length - (intOf ii).toNat)
  case atStart => exact ⟨0, _, rfl, Nat.zero_le _, HO0, HQ0, HK0⟩
  case round =>
   obtain ⟨j, ys, rfl, hj, hO, hQ, hK⟩ := hrel
   clear HO0 HQ0 HK0
   have p2 : (0 : Int) ≤ (j : Int) := Int.natCast_nonneg _
   by_cases hlt : j < args.length
   ·obtain ⟨y, hy⟩ : ∃ y, args[j]? = some y := ⟨_, List.getElem?_eq_getElem hlt⟩
    have hdrop : args.drop j = y :: args.drop (j + 1) := by
     have := List.drop_eq_getElem_cons hlt
     rw [List.getElem?_eq_getElem hlt] at hy
     injection hy with hy
     rw [this, hy]
    have hmem := List.mem_of_getElem? hy
    have hIr := HEx.out _ hK.out
    obtain ⟨rb, ro, hda, hrb, hrow⟩ := hIr.row (by intro h0; have h1 : args = [] := h0; rw [h1] at hlt; simp at hlt)
    obtain ⟨z0, z1, z2, z3, z4, z5, z6⟩ := hrow j y hy
    have hda2 : d.a = some ⟨rb, ro, none⟩ := hda
    have hyI := hIr.sub y hmem
    have hQ1 := hQ.out
    rw [hdrop, exCls] at hQ1
    have hlen1 := congrArg List.length hQ1
    simp only [List.length_append] at hlen1
    obtain ⟨Z, hZ⟩ : ∃ Z, wr.heap.size = Z := ⟨_, rfl⟩
    obtain ⟨w6, hw6⟩ : ∃ w6, wr.alloc (.cells #[.int .u8 y.k, .int .i64 y.n, .string ⟨y.nm.toArray⟩, .int .u8 y.t.k, .string ⟨y.t.nm.toArray⟩, .int .i64 y.t.n, .slice y.d.a y.args.length y.d.c] 70 (0, 0)) = w6 := ⟨_, rfl⟩
    have hb6 : Below wr.heap.size wr w6 := by rw [← hw6]; exact (Below.refl _ _).alloc (Nat.le_refl _) _
    have HK6 : Hid (KpI Bo Ob w1 w6) := Lib.hid (hK.out.behind hb6)
    have hcc6 := HCc.out _ HK6.out
    have C := Lib.hid (HIh.out y hmem ys w6 (HBo.out _ HK6.out) hcc6 (hO.out.below hb6) ((HEx.out _ HK6.out).sub y hmem) (HKn.out y hmem) (by have := HRl.out; omega))
    have HQ : Hid ((ys ++ exCl p y) ++ exCls p (args.drop (j + 1)) = R) := Lib.hid (by rw [List.append_assoc]; exact hQ1)
    have e6 := cell_at hcc6.e 0
    simp only [sl7, sl8] at e6
    rw [← hw6] at e6
    have p1 : (j : Int) < (args.length : Int) := by omega
    have HN6 := Lib.hid (And.intro hZ hw6)
    clear hb6 hrow hIr hdrop hmem hda hyI hZ hw6 hK hO hQ hQ1 hlen1 hrb hy hcc6
    rw [hda2]
    go_wp2_with fail
    simp only [HN6.out.1, HN6.out.2]
    clear z0 z1 z2 z3 z4 z5 z6 hda2 e6
    refine C.out.mono ?_
    rintro e w7 ⟨rfl, ho7, hk7⟩
    have HO7 := Lib.hid ho7
    have HK7 : Hid (KpI Bo Ob w1 w7) := Lib.hid (HK6.out.trans hk7)
    clear ho7 hk7 C HK6
    go_wp2_with fail
    go_roundw
    case rel => exact ⟨j + 1, _, by go_num, by omega, HO7, HQ, HK7⟩
    case measure => simp [intOf]; omega
   ·obtain rfl : j = args.length := by omega
    have HF : Hid (ys = R) := Lib.hid (by have h := hQ.out; rw [List.drop_length, exCls, List.append_nil] at h; exact h)
    have HF2 := Lib.hid (HKw.out _ hK.out)
    clear hQ hK
    go_wp2_with fail
    go_end0
    exact ⟨rfl, by rw [← HF.out]; exact hO.out, HF2.out⟩
 ·have b7 : (k == 7) = false := by simpa using h7
  rw [if_neg h7, List.nil_append] at hR
  have HR : Hid (xs ++ exCls p (args.drop 0) = R) := Lib.hid (by rw [List.drop_zero]; exact hR)
  clear hR hkn h7 CFn HS
  go_enter Tryz.func141, Tryz.ntmps141
  go_upto_region 4 with fail
  simp only [HN.out.1, HN.out.2]
  clear q0
  have HO0 : Hid (OutAt Bo Ob (xs) w1) := HO1
  have HQ0 : Hid (xs ++ exCls p (args.drop 0) = R) := HR
  have HK0 : Hid (KpI Bo Ob w1 w1) := Lib.hid (KpI.refl _ _ _)
  have q6 := cell_at (HRow.out _ HK0.out) 6
  simp only [sl7, sl8, sl9] at q6
  go_wp2_with fail
  clear q6
  go_loopw [29] (fun ii wr => ∃ (j : Nat) (ys : List Nat), ii = .int .i64 j ∧ j ≤ args.length ∧ Hid (OutAt Bo Ob ys wr) ∧ Hid (ys ++ exCls p (args.drop j) = R) ∧ Hid (KpI Bo Ob w1 wr)) (fun ii _ => args.length - (intOf ii).toNat)
  case atStart => exact ⟨0, _, rfl, Nat.zero_le _, HO0, HQ0, HK0⟩
  case round =>
   obtain ⟨j, ys, rfl, hj, hO, hQ, hK⟩ := hrel
   clear HO0 HQ0 HK0
   have p2 : (0 : Int) ≤ (j : Int) := Int.natCast_nonneg _
   by_cases hlt : j < args.length
   ·obtain ⟨y, hy⟩ : ∃ y, args[j]? = some y := ⟨_, List.getElem?_eq_getElem hlt⟩
    have hdrop : args.drop j = y :: args.drop (j + 1) := by
     have := List.drop_eq_getElem_cons hlt
     rw [List.getElem?_eq_getElem hlt] at hy
     injection hy with hy
     rw [this, hy]
    have hmem := List.mem_of_getElem? hy
    have hIr := HEx.out _ hK.out
    obtain ⟨rb, ro, hda, hrb, hrow⟩ := hIr.row (by intro h0; have h1 : args = [] := h0; rw [h1] at hlt; simp at hlt)
    obtain ⟨z0, z1, z2, z3, z4, z5, z6⟩ := hrow j y hy
    have hda2 : d.a = some ⟨rb, ro, none⟩ := hda
    have hyI := hIr.sub y hmem
    have hQ1 := hQ.out
    rw [hdrop, exCls] at hQ1
    have hlen1 := congrArg List.length hQ1
    simp only [List.length_append] at hlen1
    obtain ⟨Z, hZ⟩ : ∃ Z, wr.heap.size = Z := ⟨_, rfl⟩
    obtain ⟨w6, hw6⟩ : ∃ w6, wr.alloc (.cells #[.int .u8 y.k, .int .i64 y.n, .string ⟨y.nm.toArray⟩, .int .u8 y.t.k, .string ⟨y.t.nm.toArray⟩, .int .i64 y.t.n, .slice y.d.a y.args.length y.d.c] 70 (0, 0)) = w6 := ⟨_, rfl⟩
    have hb6 : Below wr.heap.size wr w6 := by rw [← hw6]; exact (Below.refl _ _).alloc (Nat.le_refl _) _
    have HK6 : Hid (KpI Bo Ob w1 w6) := Lib.hid (hK.out.behind hb6)
    have hcc6 := HCc.out _ HK6.out
    have C := Lib.hid (HIh.out y hmem ys w6 (HBo.out _ HK6.out) hcc6 (hO.out.below hb6) ((HEx.out _ HK6.out).sub y hmem) (HKn.out y hmem) (by have := HRl.out; omega))
    have HQ : Hid ((ys ++ exCl p y) ++ exCls p (args.drop (j + 1)) = R) := Lib.hid (by rw [List.append_assoc]; exact hQ1)
    have e6 := cell_at hcc6.e 0
    simp only [sl7, sl8] at e6
    rw [← hw6] at e6
    have p1 : (j : Int) < (args.length : Int) := by omega
    have HN6 := Lib.hid (And.intro hZ hw6)
    clear hb6 hrow hIr hdrop hmem hda hyI hZ hw6 hK hO hQ hQ1 hlen1 hrb hy hcc6
    rw [hda2]
    go_wp2_with fail
    simp only [HN6.out.1, HN6.out.2]
    clear z0 z1 z2 z3 z4 z5 z6 hda2 e6
    refine C.out.mono ?_
    rintro e w7 ⟨rfl, ho7, hk7⟩
    have HO7 := Lib.hid ho7
    have HK7 : Hid (KpI Bo Ob w1 w7) := Lib.hid (HK6.out.trans hk7)
    clear ho7 hk7 C HK6
    go_wp2_with fail
    go_roundw
    case rel => exact ⟨j + 1, _, by go_num, by omega, HO7, HQ, HK7⟩
    case measure => simp [intOf]; omega
   ·obtain rfl : j = args.length := by omega
    have HF : Hid (ys = R) := Lib.hid (by have h := hQ.out; rw [List.drop_length, exCls, List.append_nil] at h; exact h)
    have HF2 := Lib.hid (HKw.out _ hK.out)
    clear hQ hK
    go_wp2_with fail
    go_end0
    exact ⟨rfl, by rw [← HF.out]; exact hO.out, HF2.out⟩
end Go.Proofs.YtkklogikakcanaaGreatDoor
namespace Go.Proofs.YtkklogikakcanaaGreatDoor
open Go Go.Maps Go.RowKit
theorem EaAt.keptI {Fc Lc Nb Bo Ob : Nat} {fn : Fn} {w w' : World} (h : EaAt Fc Lc Nb fn w) (hk : KpI Bo Ob w w') (h1 : Fc ≠ Ob) (h2 : Lc ≠ Ob) : EaAt Fc Lc Nb fn w' :=
 ⟨hk.keep h.f h1 (fun cs fz e => by simp at e), hk.keep h.l h2 (fun cs fz e => by simp at e)⟩
set_option maxHeartbeats 40000000 in
set_option maxRecDepth 100000 in
theorem callsS_any (B Kb Rb Fb Sb Ke Db Tb Bo K2 Ob Ec : Nat) (p : Pr) (s : EfS) (w0 : World) (h0 : EfIs B Kb Rb Fb Sb Ke Db Tb p s w0) (hBo : w0.heap.size = Bo) (hOb : Bo ≤ Ob) (k : Int) (nm : List UInt8) (t : Ty) (x y : Ex) (A : Option Addr) (l c : Nat) (E : Option Addr) (m e : Nat) (xs : List Nat) (w : World) (hB0 : Below Bo w0 w) (hCc : CcAt K2 Ob Ec Ke w) (hO : OutAt Bo Ob xs w) (hx : ExIn w B x) (hy : ExIn w B y) (hkx : knE p x = true) (hky : knE p y = true) (hxl : xs.length + ((exCl p x).length + (exCl p y).length) ≤ 1000000) :
  Calls Tryz.prog 143 #[.agg (stCells k nm t x y A l c E m e).toArray, .pointer (some ⟨Ec, 0, none⟩)] w fun en w' => en = .returned (.tuple #[]) ∧ OutAt Bo Ob (xs ++ (exCl p x ++ exCl p y)) w' ∧ KpI Bo Ob w w' := by
 obtain ⟨X, hX⟩ : ∃ X, w.heap.size = X := ⟨_, rfl⟩
 obtain ⟨w1, hw1⟩ : ∃ w1, w.alloc (stObj k nm t x y A l c E m e) = w1 := ⟨_, rfl⟩
 have hb1 : Below w.heap.size w w1 := by rw [← hw1]; exact (Below.refl _ _).alloc (Nat.le_refl _) _
 have x1 : w1.heap[X]? = some (stObj k nm t x y A l c E m e) := by rw [← hw1, ← hX]; exact heap_alloc_new w _
 have hBw : Bo ≤ w.heap.size := by have := hB0.size; omega
 have hBw1 : Below Bo w0 w1 := hB0.trans (hb1.mono hBw)
 have hBB : B ≤ Bo := by rw [← hBo]; exact h0.sc.le
 have hXO : X ≠ Ob := by have := hO.lt; omega
 have HRow : Hid (∀ W, KpI Bo Ob w1 W → W.heap[X]? = some (stObj k nm t x y A l c E m e)) := Lib.hid fun W hk => hk.keep x1 hXO (fun cs fz e => by simp at e)
 have HCc : Hid (∀ W, KpI Bo Ob w1 W → CcAt K2 Ob Ec Ke W) := Lib.hid fun W hk => (hCc.kept (KpI.of_below (Bo := Bo) hb1)).kept hk
 have HK1 : Hid (KpI Bo Ob w w1) := Lib.hid (KpI.of_below hb1)
 have hBs := Nat.le_trans hBw hb1.size
 have CX := Lib.hid (callsE_any B Kb Rb Fb Sb Ke Db Tb Bo K2 Ob Ec p s w0 h0 hBo hOb _ x (Nat.le_refl _) xs w1 hBw1 (HCc.out _ (KpI.refl _ _ _)) (hO.below hb1) (hx.keep ((hb1.mono hBw).mono hBB) (Nat.le_refl B)) hkx (by omega))
 have CY : Hid (∀ W, KpI Bo Ob w1 W → OutAt Bo Ob (xs ++ exCl p x) W → Calls Tryz.prog 141 #[y.val, .pointer (some ⟨K2, 0, none⟩), .pointer (some ⟨Ob, 0, none⟩), .pointer (some ⟨Ec, 0, none⟩)] W fun e w' => e = .returned (.tuple #[]) ∧ OutAt Bo Ob ((xs ++ exCl p x) ++ exCl p y) w' ∧ KpI Bo Ob W w') :=
  Lib.hid fun W hk ho => callsE_any B Kb Rb Fb Sb Ke Db Tb Bo K2 Ob Ec p s w0 h0 hBo hOb _ y (Nat.le_refl _) _ W (hBw1.trans (hk.blw hBs)) (HCc.out _ hk) ho (hy.keep (((hb1.mono hBw).trans (hk.blw hBs)).mono hBB) (Nat.le_refl B)) hky (by rw [List.length_append]; omega)
 have e1 := cell_at (HCc.out _ (KpI.refl _ _ _)).e 0
 obtain ⟨r5, r6, r7, r8, r9, r10, r11, -⟩ := XyS.of x1
 simp only [sl7, sl8] at e1
 rw [← hw1] at e1
 rw [← hw1, ← hX] at r5 r6 r7 r8 r9 r10 r11
 have HN := Lib.hid (And.intro hX hw1)
 clear hX hw1 hb1 x1 hBw hBw1 hBB hXO h0 hBo hOb hB0 hCc hO hx hy hkx hky hxl hBs
 go_enter Tryz.func143, Tryz.ntmps143
 go_wp2_with fail
 simp only [HN.out.1, HN.out.2]
 refine CX.out.mono ?_
 rintro e2 w2 ⟨rfl, ho2, hk2⟩
 have C2 := Lib.hid (CY.out w2 hk2 ho2)
 have HK2 := Lib.hid (HK1.out.trans hk2)
 clear e1 r5 r6 r7 r8 r9 r10 r11 CX CY
 have e1 := cell_at (HCc.out _ hk2).e 0
 obtain ⟨-, -, -, -, -, -, -, s5, s6, s7, s8, s9, s10, s11⟩ := XyS.of (HRow.out _ hk2)
 simp only [sl7, sl8] at e1
 clear ho2 hk2
 go_wp2_with fail
 refine C2.out.mono ?_
 rintro e3 w3 ⟨rfl, ho3, hk3⟩
 have HF : Hid (OutAt Bo Ob (xs ++ (exCl p x ++ exCl p y)) w3 ∧ KpI Bo Ob w w3) := Lib.hid ⟨by rw [← List.append_assoc]; exact ho3, HK2.out.trans hk3⟩
 clear ho3 hk3 C2 e1 s5 s6 s7 s8 s9 s10 s11
 go_wp2_with fail
 go_end0
 exact ⟨rfl, HF.out.1, HF.out.2⟩
set_option maxHeartbeats 40000000 in
set_option maxRecDepth 100000 in
theorem eachC_any (B Kb Rb Fb Sb Ke Db Tb Bo K2 Ob Ec Fc Lc : Nat) (p : Pr) (s : EfS) (w0 : World) (h0 : EfIs B Kb Rb Fb Sb Ke Db Tb p s w0) (hBo : w0.heap.size = Bo) (hOb : Bo ≤ Ob) (hF : Fc ≠ Ob) (hL : Lc ≠ Ob) : ∀ (sz : Nat) (l : List St), plSts l ≤ sz → ∀ (d : Hd) (xs : List Nat) (w : World), Below Bo w0 w → CcAt K2 Ob Ec Ke w → EaAt Fc Lc Ec (.func 143) w → OutAt Bo Ob xs w → StsIn w B d l → knSs p l = true → xs.length + (stCls p l).length ≤ 1000000 →
  Calls Tryz.prog 81 #[.slice d.a l.length d.c, .pointer (some ⟨Fc, 0, none⟩), .pointer (some ⟨Lc, 0, none⟩)] w
   fun e w' => e = .returned (.tuple #[]) ∧ OutAt Bo Ob (xs ++ stCls p l) w' ∧ KpI Bo Ob w w' := by
 intro sz
 induction sz using Nat.strongRecOn with
 | ind sz ih =>
 intro l hsz0 d xs w hB0 hCc hEa hO hI hkn hxl
 have hBw : Bo ≤ w.heap.size := by have := hB0.size; omega
 have hBB : B ≤ Bo := by rw [← hBo]; exact h0.sc.le
 have HBo : Hid (∀ W, KpI Bo Ob w W → Below Bo w0 W ∧ Bo ≤ W.heap.size) := Lib.hid fun W hk => ⟨hB0.trans (hk.blw hBw), Nat.le_trans hBw hk.size⟩
 have HCc : Hid (∀ W, KpI Bo Ob w W → CcAt K2 Ob Ec Ke W ∧ EaAt Fc Lc Ec (.func 143) W) := Lib.hid fun W hk => ⟨hCc.kept hk, hEa.keptI hk hF hL⟩
 have HI : Hid (∀ W, KpI Bo Ob w W → StsIn W B d l) := Lib.hid fun W hk => hI.keep ((hk.blw hBw).mono hBB) (Nat.le_refl B)
 have HKn : Hid (∀ y ∈ l, knS p y = true) := Lib.hid fun y hy => knSs_mem hkn hy
 have p3 : l.length ≤ 140737488355328 := hI.len
 obtain ⟨R, hR⟩ : ∃ R, xs ++ stCls p l = R := ⟨_, rfl⟩
 rw [hR]
 have HRl : Hid (R.length ≤ 1000000) := Lib.hid (by rw [← hR, List.length_append]; exact hxl)
 have HQ0 : Hid (xs ++ stCls p (l.drop 0) = R) := Lib.hid (by rw [List.drop_zero]; exact hR)
 have HO0 := Lib.hid hO
 have HK0 : Hid (KpI Bo Ob w w) := Lib.hid (KpI.refl _ _ _)
 have HIh : Hid (∀ b : List St, plSts b < plSts l → ∀ (d : Hd) (xs : List Nat) (w : World), Below Bo w0 w → CcAt K2 Ob Ec Ke w → EaAt Fc Lc Ec (.func 143) w → OutAt Bo Ob xs w → StsIn w B d b → knSs p b = true → xs.length + (stCls p b).length ≤ 1000000 →
  Calls Tryz.prog 81 #[.slice d.a b.length d.c, .pointer (some ⟨Fc, 0, none⟩), .pointer (some ⟨Lc, 0, none⟩)] w
   fun e w' => e = .returned (.tuple #[]) ∧ OutAt Bo Ob (xs ++ stCls p b) w' ∧ KpI Bo Ob w w') := Lib.hid fun b hb => ih (plSts b) (by omega) b (Nat.le_refl _)
 have HCS : Hid (∀ (k : Int) (nm : List UInt8) (t : Ty) (x y : Ex) (A : Option Addr) (l c : Nat) (E : Option Addr) (m e : Nat) (xs : List Nat) (W : World), KpI Bo Ob w W → OutAt Bo Ob xs W → ExIn W B x → ExIn W B y → knE p x = true → knE p y = true → xs.length + ((exCl p x).length + (exCl p y).length) ≤ 1000000 →
  Calls Tryz.prog 143 #[.agg (stCells k nm t x y A l c E m e).toArray, .pointer (some ⟨Ec, 0, none⟩)] W fun en w' => en = .returned (.tuple #[]) ∧ OutAt Bo Ob (xs ++ (exCl p x ++ exCl p y)) w' ∧ KpI Bo Ob W w') := Lib.hid fun k nm t x y A l c E m e xs W hk ho hx hy hkx hky hl => callsS_any B Kb Rb Fb Sb Ke Db Tb Bo K2 Ob Ec p s w0 h0 hBo hOb k nm t x y A l c E m e xs W (HBo.out _ hk).1 (HCc.out _ hk).1 ho hx hy hkx hky hl
 have HBB := Lib.hid hBB
 clear hI hkn ih hsz0 hB0 hCc hEa hO hBw hBB hR hxl h0 hBo hOb
 go_enter Tryz.func81, Tryz.ntmps81
 go_wp2_with fail
 go_loopw [8] (fun ii wr => ∃ (j : Nat) (ys : List Nat), ii = .int .i64 j ∧ j ≤ l.length ∧ Hid (OutAt Bo Ob ys wr) ∧ Hid (ys ++ stCls p (l.drop j) = R) ∧ Hid (KpI Bo Ob w wr)) (fun ii _ => l.length - (intOf ii).toNat)
 case atStart => exact ⟨0, xs, rfl, Nat.zero_le _, HO0, HQ0, HK0⟩
 case round =>
  obtain ⟨j, ys, rfl, hj, hO, hQ, hK⟩ := hrel
  clear HO0 HQ0 HK0
  have p2 : (0 : Int) ≤ (j : Int) := Int.natCast_nonneg _
  by_cases hlt : j < l.length
  ·obtain ⟨y, hy⟩ : ∃ y, l[j]? = some y := ⟨_, List.getElem?_eq_getElem hlt⟩
   have hdrop : l.drop j = y :: l.drop (j + 1) := by
    have := List.drop_eq_getElem_cons hlt
    rw [List.getElem?_eq_getElem hlt] at hy
    injection hy with hy
    rw [this, hy]
   have hmem := List.mem_of_getElem? hy
   have hIr := HI.out _ hK.out
   obtain ⟨rb, ro, hda, hrb, hrow⟩ := hIr.row (by intro h0; rw [h0] at hlt; simp at hlt)
   have hsa := hrow j y hy
   have hsI := hIr.sub y hmem
   have hle := plSts_drop j l
   rw [hdrop, plSts] at hle
   have hkn := HKn.out y hmem
   have hQ1 := hQ.out
   rw [hdrop, stCls] at hQ1
   obtain ⟨k, nm, t, x, u, bd, body, ed, els⟩ := y
   rw [plSt] at hle
   rw [stCl] at hQ1
   rw [knS] at hkn
   simp only [Bool.and_eq_true] at hkn
   have hlen1 := congrArg List.length hQ1
   simp only [List.length_append] at hlen1
   have hz := hsa.cells
   dsimp only [St.k, St.nm, St.t, St.x, St.y, St.bd, St.body, St.ed, St.els] at hz
   obtain ⟨X6, hX6⟩ : ∃ X6, wr.heap.size = X6 := ⟨_, rfl⟩
   obtain ⟨w6, hw6⟩ : ∃ w6, wr.alloc (stObj k nm t x u bd.a body.length bd.c ed.a els.length ed.c) = w6 := ⟨_, rfl⟩
   have hb6 : Below wr.heap.size wr w6 := by rw [← hw6]; exact (Below.refl _ _).alloc (Nat.le_refl _) _
   have x6 : w6.heap[X6]? = some (stObj k nm t x u bd.a body.length bd.c ed.a els.length ed.c) := by rw [← hw6, ← hX6]; exact heap_alloc_new wr _
   have hXO : X6 ≠ Ob := by have := hO.out.lt; omega
   have HK6 : Hid (KpI Bo Ob w w6) := Lib.hid (hK.out.behind hb6)
   have HRow : Hid (∀ W, KpI Bo Ob w6 W → W.heap[X6]? = some (stObj k nm t x u bd.a body.length bd.c ed.a els.length ed.c)) := Lib.hid fun W hk => hk.keep x6 hXO (fun cs fz e => by simp at e)
   have HSI : Hid (∀ W, KpI Bo Ob w6 W → StIn W B (.mk k nm t x u bd body ed els)) := Lib.hid fun W hk => hsI.keep (((KpI.of_below hb6).trans hk).blw (HBo.out _ hK.out).2 |>.mono HBB.out) (Nat.le_refl B)
   have CS := Lib.hid (HCS.out k nm t x u bd.a body.length bd.c ed.a els.length ed.c ys w6 HK6.out (hO.out.below hb6) (HSI.out _ (KpI.refl _ _ _)).x (HSI.out _ (KpI.refl _ _ _)).y hkn.1.1 hkn.1.2 (by have := HRl.out; omega))
   have HKk := Lib.hid hkn.2
   have HA : Hid (plSts body < plSts l ∧ plSts els < plSts l ∧ ys.length + ((exCl p x).length + (exCl p u).length) + ((stCls p body).length + (stCls p els).length) ≤ 1000000) := Lib.hid ⟨by omega, by omega, by have := HRl.out; omega⟩
   have HQ : Hid ((((ys ++ (exCl p x ++ exCl p u)) ++ stCls p body) ++ stCls p els) ++ stCls p (l.drop (j + 1)) = R) := Lib.hid (by rw [← hQ1]; simp only [List.append_assoc])
   have f6 := cell_at (HCc.out _ HK6.out).2.f 0
   simp only [sl7, sl8] at f6
   have z6 : ∀ q v, (stCells k nm t x u bd.a body.length bd.c ed.a els.length ed.c)[q]? = some v → (wr.alloc (stObj k nm t x u bd.a body.length bd.c ed.a els.length ed.c)).cell? ((⟨wr.heap.size, 0, none⟩ : Addr).add q) = some v := by
    rw [hX6, hw6]
    exact row_cells (vs := stCells k nm t x u bd.a body.length bd.c ed.a els.length ed.c) (w := w6) x6
   rw [← hw6] at f6
   have p1 : (j : Int) < (l.length : Int) := by omega
   have HNm := Lib.hid (And.intro hX6 hw6)
   clear hb6 x6 hrow hIr hdrop hX6 hw6 hK hO hQ hQ1 hle hsa hsI hmem hy hkn hrb hlen1 hXO
   rw [hda]
   go_wp2_with (first | (refine wpList_load_list rfl 72 _ rfl _ rfl (stCells k nm t x u bd.a body.length bd.c ed.a els.length ed.c) _ hz Tryz.underlying72 rfl (stSize ..) ?_) | (refine wpList_store_row rfl 72 _ _ rfl wr.heap.size (stCells k nm t x u bd.a body.length bd.c ed.a els.length ed.c).toArray rfl rfl 72 _ (heap_alloc_new wr _) (stSizeA ..) rfl (stOne ..) ?_; rw [alloc_setRow _ _ _ _ _ rfl]) | (refine wpList_load_list rfl 72 _ rfl _ rfl (stCells k nm t x u bd.a body.length bd.c ed.a els.length ed.c) _ z6 Tryz.underlying72 rfl (stSize ..) ?_))
   simp only [HNm.out.1, HNm.out.2]
   clear f6 z6 hz
   refine CS.out.mono ?_
   rintro e w7 ⟨rfl, ho7, hk7⟩
   have HO7 := Lib.hid ho7
   have HK7 := Lib.hid (And.intro (HK6.out.trans hk7) hk7)
   clear ho7 hk7 CS
   have l7 := cell_at (HCc.out _ HK7.out.1).2.l 0
   have r19 := cell_at (HRow.out _ HK7.out.2) 19
   simp only [sl7, sl8, sl9] at l7 r19
   go_wp2_with fail
   have C1 := HIh.out body HA.out.1 bd _ w7 (HBo.out _ HK7.out.1).1 (HCc.out _ HK7.out.1).1 (HCc.out _ HK7.out.1).2 HO7.out (HSI.out _ HK7.out.2).body HKk.out.1 (by have := HA.out.2.2; simp only [List.length_append]; omega)
   refine C1.mono ?_
   rintro e w8 ⟨rfl, ho8, hk8⟩
   have HO8 := Lib.hid ho8
   have HK8 := Lib.hid (And.intro (HK7.out.1.trans hk8) (HK7.out.2.trans hk8))
   clear ho8 hk8 l7 r19 C1
   have l7 := cell_at (HCc.out _ HK8.out.1).2.l 0
   have r20 := cell_at (HRow.out _ HK8.out.2) 20
   simp only [sl7, sl8, sl9] at l7 r20
   go_wp2_with fail
   have C2 := HIh.out els HA.out.2.1 ed _ w8 (HBo.out _ HK8.out.1).1 (HCc.out _ HK8.out.1).1 (HCc.out _ HK8.out.1).2 HO8.out (HSI.out _ HK8.out.2).els HKk.out.2 (by have := HA.out.2.2; simp only [List.length_append]; omega)
   refine C2.mono ?_
   rintro e w9 ⟨rfl, ho9, hk9⟩
   have HO9 := Lib.hid ho9
   have HK9 : Hid (KpI Bo Ob w w9) := Lib.hid (HK8.out.1.trans hk9)
   clear ho9 hk9 l7 r20 C2
   go_wp2_with fail
   go_roundw
   case rel => exact ⟨j + 1, _, by go_num, by omega, HO9, HQ, HK9⟩
   case measure => simp [intOf]; omega
  ·obtain rfl : j = l.length := by omega
   have HF : Hid (ys = R) := Lib.hid (by have h := hQ.out; rw [List.drop_length, stCls, List.append_nil] at h; exact h)
   clear hQ
   go_wp2_with fail
   go_end0
   exact ⟨rfl, by rw [← HF.out]; exact hO.out, hK.out⟩
end Go.Proofs.YtkklogikakcanaaGreatDoor
namespace Go.Proofs.YtkklogikakcanaaGreatDoor
open Go Go.Maps Go.RowKit
abbrev oneTh (Q : Nat) : Array Value := #[.slice none 0 0, .slice none 0 0, .slice none 0 0, .slice (some ⟨Q, 0, none⟩) 1 1]
set_option maxHeartbeats 8000000 in
set_option maxRecDepth 100000 in
theorem eachT_any (B Kb Rb Fb Sb Ke Db Tb Bo K2 Ob Ec Q : Nat) (p : Pr) (s : EfS) (w0 : World) (h0 : EfIs B Kb Rb Fb Sb Ke Db Tb p s w0) (hBo : w0.heap.size = Bo) (hOb : Bo ≤ Ob) (bd : Hd) (body : List St) (w : World) (hB0 : Below Bo w0 w) (hCc : CcAt K2 Ob Ec Ke w) (hO : OutAt Bo Ob [] w) (hQ : w.heap[Q]? = some (.cells #[.slice bd.a body.length bd.c] 51 (0, 0))) (hQO : Q ≠ Ob) (hI : StsIn w B bd body) (hkn : knSs p body = true) (hxl : (stCls p body).length ≤ 1000000) :
  Calls Tryz.prog 40 #[.agg (oneTh Q), .func (.func 143) #[] #[.pointer (some ⟨Ec, 0, none⟩)]] w fun e w' => e = .returned (.tuple #[]) ∧ OutAt Bo Ob (stCls p body) w' ∧ KpI Bo Ob w w' := by
 have hmf : ∀ (fn : Fn) (first cap : Array Value) (w : World), (Instr.makeFunc fn first cap).run Tryz.prog w = .ok (.func fn first cap) w := fun _ _ _ _ => rfl
 obtain ⟨X, hX⟩ : ∃ X, w.heap.size = X := ⟨_, rfl⟩
 obtain ⟨w1, hw1⟩ : ∃ w1, w.alloc (.cells (oneTh Q) 27 (0, 0)) = w1 := ⟨_, rfl⟩
 obtain ⟨Fc, hFc⟩ : ∃ Fc, w1.heap.size = Fc := ⟨_, rfl⟩
 obtain ⟨w2, hw2⟩ : ∃ w2, w1.alloc (.cells #[.func (.func 143) #[] #[.pointer (some ⟨Ec, 0, none⟩)]] 73 (0, 0)) = w2 := ⟨_, rfl⟩
 obtain ⟨Lc, hLc⟩ : ∃ Lc, w2.heap.size = Lc := ⟨_, rfl⟩
 obtain ⟨w3, hw3⟩ : ∃ w3, w2.alloc (.cells #[.func (.func 81) #[] #[.pointer (some ⟨Fc, 0, none⟩), .pointer (some ⟨Lc, 0, none⟩)]] 132 (0, 0)) = w3 := ⟨_, rfl⟩
 have hb1 : Below w.heap.size w w1 := by rw [← hw1]; exact (Below.refl _ _).alloc (Nat.le_refl _) _
 have hb2 : Below w1.heap.size w1 w2 := by rw [← hw2]; exact (Below.refl _ _).alloc (Nat.le_refl _) _
 have hb3 : Below w2.heap.size w2 w3 := by rw [← hw3]; exact (Below.refl _ _).alloc (Nat.le_refl _) _
 have s1 : w1.heap.size = X + 1 := by rw [← hw1, World.size_alloc, hX]
 have s2 : w2.heap.size = Fc + 1 := by rw [← hw2, World.size_alloc, hFc]
 have s3 : w3.heap.size = Lc + 1 := by rw [← hw3, World.size_alloc, hLc]
 have b13 : Below w1.heap.size w1 w3 := hb2.trans (hb3.mono hb2.size)
 have b03 : Below w.heap.size w w3 := hb1.trans (b13.mono hb1.size)
 have x3 : w3.heap[X]? = some (.cells (oneTh Q) 27 (0, 0)) := (b13.block X (by omega)).trans (by rw [← hw1, ← hX]; exact heap_alloc_new w _)
 have e3 : EaAt Fc Lc Ec (.func 143) w3 := ⟨(hb3.block Fc (by omega)).trans (by rw [← hw2, ← hFc]; exact heap_alloc_new w1 _), by rw [← hw3, ← hLc]; exact heap_alloc_new w2 _⟩
 have hOl := hO.lt
 have hBw : Bo ≤ w.heap.size := by have := hB0.size; omega
 have hBB : B ≤ Bo := by rw [← hBo]; exact h0.sc.le
 have C := Lib.hid (eachC_any B Kb Rb Fb Sb Ke Db Tb Bo K2 Ob Ec Fc Lc p s w0 h0 hBo hOb (by omega) (by omega) _ body (Nat.le_refl _) bd [] w3 (hB0.trans (b03.mono hBw)) (hCc.kept (KpI.of_below (Bo := Bo) b03)) e3 (hO.below b03) (hI.keep ((b03.mono hBw).mono hBB) (Nat.le_refl B)) hkn (by simpa using hxl))
 rw [List.nil_append] at C
 have HB3 : Hid (KpI Bo Ob w w3) := Lib.hid (KpI.of_below b03)
 have HX : Hid (∀ W, KpI Bo Ob w3 W → W.heap[X]? = some (.cells (oneTh Q) 27 (0, 0))) := Lib.hid fun W hk => hk.keep x3 (by omega) (fun cs fz e => by simp at e)
 have HN : Hid (w.heap.size = X ∧ X + 1 = Fc ∧ Fc + 1 = Lc ∧ ((w.alloc (.cells (oneTh Q) 27 (0, 0))).alloc (.cells #[.func (.func 143) #[] #[.pointer (some ⟨Ec, 0, none⟩)]] 73 (0, 0))).alloc (.cells #[.func (.func 81) #[] #[.pointer (some ⟨Fc, 0, none⟩), .pointer (some ⟨Lc, 0, none⟩)]] 132 (0, 0)) = w3) := Lib.hid ⟨hX, by omega, by omega, by rw [hw1, hw2, hw3]⟩
 have q2 := cell_at x3 2
 have q3 := cell_at x3 3
 have l3 := cell_at e3.l 0
 have b3 : w3.cell? ⟨Q, 0, none⟩ = some (.slice bd.a body.length bd.c) := cell_at ((b03.block Q (blk_lt hQ)).trans hQ) 0
 simp only [sl7, sl8, sl9, List.length_nil, List.length_cons] at q2 q3 l3
 clear hX hw1 hFc hw2 hLc hw3 hb1 hb2 hb3 s1 s2 s3 b13 b03 x3 e3 hOl hBw hBB h0 hBo hOb hB0 hCc hO hQ hQO hI hkn hxl
 go_enter Tryz.func40, Tryz.ntmps40
 go_wp2_with fail
 simp only [HN.out.1, HN.out.2.1, HN.out.2.2.1, HN.out.2.2.2]
 refine wp_loop_rounds 1 ?_
 rw [rounds_succ]
 go_wp2_with fail
 refine wp_loop_rounds 2 ?_
 rw [rounds_succ]
 go_wp2_with fail
 refine C.out.mono ?_
 rintro e w7 ⟨rfl, ho7, hk7⟩
 have HO7 := Lib.hid (And.intro ho7 (HB3.out.trans hk7))
 clear ho7 hk7 C q2 q3 l3 b3
 go_wp2_with fail
 rw [rounds_succ]
 go_wp2_with fail
 go_end0
 exact ⟨rfl, HO7.out.1, HO7.out.2⟩
set_option maxHeartbeats 8000000 in
set_option maxRecDepth 100000 in
theorem calls_any (B Kb Rb Fb Sb Ke Db Tb : Nat) (p : Pr) (KN : KnP p) (s : EfS) (w : World) (h0 : EfIs B Kb Rb Fb Sb Ke Db Tb p s w) (i : Nat) (hi : i < p.fs.length) (hxl : (callsOf p i).length ≤ 1000000) :
  Calls Tryz.prog 101 #[.pointer (some ⟨Ke, 0, none⟩), .int .i64 (i : Int)] w fun e w' => ∃ v, e = .returned v ∧ w'.ownsRow w.heap.size 3 1 v (callsOf p i).length (numV (callsOf p i)) ∧ Below w.heap.size w w' := by
 have hmf : ∀ (fn : Fn) (first cap : Array Value) (w : World), (Instr.makeFunc fn first cap).run Tryz.prog w = .ok (.func fn first cap) w := fun _ _ _ _ => rfl
 obtain ⟨f, hf⟩ : ∃ f, p.fs[i]? = some f := ⟨_, List.getElem?_eq_getElem hi⟩
 have hco : callsOf p i = stCls p f.body := by unfold callsOf; rw [hf]
 rw [hco] at hxl ⊢
 have hmem := List.mem_of_getElem? hf
 obtain ⟨rb, ro, hda, hrb, hrow⟩ := h0.sc.inn.frow (by intro h0; rw [h0] at hi; simp at hi)
 have z5 := (hrow i f hf).c5
 obtain ⟨K2, hK2⟩ : ∃ X, w.heap.size = X := ⟨_, rfl⟩
 obtain ⟨w1, hw1⟩ : ∃ w1, w.alloc (.cells #[.pointer (some ⟨Ke, 0, none⟩)] 95 (0, 0)) = w1 := ⟨_, rfl⟩
 obtain ⟨w2, hw2⟩ : ∃ w2, w1.alloc (.cells #[.slice none 0 0] 56 (0, 0)) = w2 := ⟨_, rfl⟩
 obtain ⟨w3, hw3⟩ : ∃ w3, w2.alloc (.cells #[.func (.func 141) #[] #[.pointer (some ⟨K2, 0, none⟩), .pointer (some ⟨K2 + 1, 0, none⟩), .pointer (some ⟨K2 + 1 + 1, 0, none⟩)]] 198 (0, 0)) = w3 := ⟨_, rfl⟩
 obtain ⟨w4, hw4⟩ : ∃ w4, w3.alloc (.cells #[.slice f.bd.a f.body.length f.bd.c] 51 (0, 0)) = w4 := ⟨_, rfl⟩
 have hb1 : Below w.heap.size w w1 := by rw [← hw1]; exact (Below.refl _ _).alloc (Nat.le_refl _) _
 have hb2 : Below w1.heap.size w1 w2 := by rw [← hw2]; exact (Below.refl _ _).alloc (Nat.le_refl _) _
 have hb3 : Below w2.heap.size w2 w3 := by rw [← hw3]; exact (Below.refl _ _).alloc (Nat.le_refl _) _
 have hb4 : Below w3.heap.size w3 w4 := by rw [← hw4]; exact (Below.refl _ _).alloc (Nat.le_refl _) _
 have s1 : w1.heap.size = K2 + 1 := by rw [← hw1, World.size_alloc, hK2]
 have s2 : w2.heap.size = K2 + 1 + 1 := by rw [← hw2, World.size_alloc, s1]
 have s3 : w3.heap.size = K2 + 1 + 1 + 1 := by rw [← hw3, World.size_alloc, s2]
 have b34 : Below w2.heap.size w2 w4 := hb3.trans (hb4.mono hb3.size)
 have b24 : Below w1.heap.size w1 w4 := hb2.trans (b34.mono hb2.size)
 have b04 : Below w.heap.size w w4 := hb1.trans (b24.mono hb1.size)
 have xk : w4.heap[K2]? = some (.cells #[.pointer (some ⟨Ke, 0, none⟩)] 95 (0, 0)) := (b24.block K2 (by omega)).trans (by rw [← hw1, ← hK2]; exact heap_alloc_new w _)
 have xo : w4.heap[K2 + 1]? = some (.cells #[.slice none 0 0] 56 (0, 0)) := (b34.block (K2 + 1) (by omega)).trans (by rw [← hw2, ← s1]; exact heap_alloc_new w1 _)
 have xe : w4.heap[K2 + 1 + 1]? = some (.cells #[.func (.func 141) #[] #[.pointer (some ⟨K2, 0, none⟩), .pointer (some ⟨K2 + 1, 0, none⟩), .pointer (some ⟨K2 + 1 + 1, 0, none⟩)]] 198 (0, 0)) := (hb4.block (K2 + 1 + 1) (by omega)).trans (by rw [← hw3, ← s2]; exact heap_alloc_new w2 _)
 have xq : w4.heap[K2 + 1 + 1 + 1]? = some (.cells #[.slice f.bd.a f.body.length f.bd.c] 51 (0, 0)) := by rw [← hw4, ← s3]; exact heap_alloc_new w3 _
 have C := Lib.hid (eachT_any B Kb Rb Fb Sb Ke Db Tb w.heap.size K2 (K2 + 1) (K2 + 1 + 1) (K2 + 1 + 1 + 1) p s w h0 rfl (by omega) f.bd f.body w4 b04 ⟨xk, xe, by omega, by omega⟩ ⟨_, xo, rfl, Or.inl ⟨rfl, rfl⟩⟩ xq (by omega) ((h0.sc.inn.fsub f hmem).body.keep (b04.mono h0.sc.le) (Nat.le_refl B)) (KN.fs f hmem) hxl)
 have HB4 := Lib.hid b04
 have hN3 : ((w.alloc (.cells #[.pointer (some ⟨Ke, 0, none⟩)] 95 (0, 0))).alloc (.cells #[.slice none 0 0] 56 (0, 0))).alloc (.cells #[.func (.func 141) #[] #[.pointer (some ⟨K2, 0, none⟩), .pointer (some ⟨K2 + 1, 0, none⟩), .pointer (some ⟨K2 + 1 + 1, 0, none⟩)]] 198 (0, 0)) = w3 := by rw [hw1, hw2, hw3]
 have b03 : Below w.heap.size w w3 := hb1.trans ((hb2.trans (hb3.mono hb2.size)).mono hb1.size)
 have k2 := cell_at (h0.below b03).k 2
 have x3k := cell_at ((hb3.block K2 (by omega)).trans ((hb2.block K2 (by omega)).trans (by rw [← hw1, ← hK2]; exact heap_alloc_new w _)) : w3.heap[K2]? = some (.cells #[.pointer (some ⟨Ke, 0, none⟩)] 95 (0, 0))) 0
 have z53 := (b03.cell (p := ⟨rb, _, none⟩) (Nat.lt_of_lt_of_le hrb h0.sc.le)).trans z5
 simp only [sl7, sl8, sl9] at k2 x3k
 rw [hda] at k2
 rw [← hN3, ← hK2] at k2 x3k z53
 have HN := Lib.hid (And.intro hK2 (And.intro hN3 (And.intro s3 hw4)))
 have p1 : (i : Int) < (p.fs.length : Int) := by omega
 have p2 : (0 : Int) ≤ (i : Int) := Int.natCast_nonneg _
 clear hw1 hw2 hw3 hw4 hb1 hb2 hb3 hb4 s1 s2 s3 b34 b24 b04 xk xo xe xq h0 hK2 hN3 b03 hrow hrb z5 hmem hf hda hco hxl
 go_enter Tryz.func101, Tryz.ntmps101
 go_wp2_with fail
 simp only [HN.out.1, HN.out.2.1, HN.out.2.2.2]
 refine C.out.mono ?_
 rintro e w5 ⟨rfl, ho5, hk5⟩
 obtain ⟨v, hv1, hv2⟩ := ho5
 have HF : Hid (w5.ownsRow w.heap.size 3 1 v (stCls p f.body).length (numV (stCls p f.body)) ∧ Below w.heap.size w w5) := Lib.hid ⟨hv2, HB4.out.trans (hk5.blw HB4.out.size)⟩
 have c5 := cell_at hv1 0
 simp only [sl7, sl8] at c5
 have hvs : v = .slice none 0 0 ∨ ∃ gg cp, v = .slice (some ⟨gg, 0, none⟩) (stCls p f.body).length cp := hv2.2.elim (fun h => Or.inl h.1) (fun ⟨gg, cp, cur, h, _⟩ => Or.inr ⟨gg, cp, h⟩)
 clear hv1 hv2 hk5 C k2 x3k z53 p1 p2
 rcases hvs with rfl | ⟨gg, cp, rfl⟩
 ·go_wp2_with fail
  go_ret
  exact ⟨_, rfl, HF.out.1, by first | exact HF.out.2 | (rw [HN.out.1]; exact HF.out.2)⟩
 ·go_wp2_with fail
  go_ret
  exact ⟨_, rfl, HF.out.1, by first | exact HF.out.2 | (rw [HN.out.1]; exact HF.out.2)⟩
end Go.Proofs.YtkklogikakcanaaGreatDoor
namespace Go.Proofs.YtkklogikakcanaaGreatDoor
open Go Go.Maps Go.RowKit
mutual
theorem exCl_lt {p : Pr} : ∀ x : Ex, knE p x = true → ∀ m ∈ exCl p x, m < p.fs.length
 | .mk k n nm t d args, h, m, hm => by
  rw [knE, Bool.and_eq_true] at h
  rw [exCl] at hm
  rcases List.mem_append.1 hm with hm | hm
  ·split at hm
   ·next h7 =>
    have h1 := h.1
    rw [show decide (k ≠ 7) = false from decide_eq_false (fun e => e h7), Bool.false_or] at h1
    obtain ⟨i, hi⟩ := Option.isSome_iff_exists.1 h1
    rw [hi, Option.getD_some, List.mem_singleton] at hm
    subst hm
    exact funOf_lt hi
   ·simp at hm
  ·exact exCls_lt args h.2 m hm
theorem exCls_lt {p : Pr} : ∀ l : List Ex, knEs p l = true → ∀ m ∈ exCls p l, m < p.fs.length
 | [], _, m, hm => by rw [exCls] at hm; simp at hm
 | x :: r, h, m, hm => by
  rw [knEs, Bool.and_eq_true] at h
  rw [exCls] at hm
  rcases List.mem_append.1 hm with hm | hm
  ·exact exCl_lt x h.1 m hm
  ·exact exCls_lt r h.2 m hm
end
mutual
theorem stCl_lt {p : Pr} : ∀ s : St, knS p s = true → ∀ m ∈ stCl p s, m < p.fs.length
 | .mk k nm t x y bd body ed els, h, m, hm => by
  rw [knS] at h
  simp only [Bool.and_eq_true] at h
  rw [stCl] at hm
  rcases List.mem_append.1 hm with hm | hm
  ·rcases List.mem_append.1 hm with hm | hm
   ·exact exCl_lt x h.1.1 m hm
   ·exact exCl_lt y h.1.2 m hm
  ·rcases List.mem_append.1 hm with hm | hm
   ·exact stCls_lt body h.2.1 m hm
   ·exact stCls_lt els h.2.2 m hm
theorem stCls_lt {p : Pr} : ∀ l : List St, knSs p l = true → ∀ m ∈ stCls p l, m < p.fs.length
 | [], _, m, hm => by rw [stCls] at hm; simp at hm
 | s :: r, h, m, hm => by
  rw [knSs, Bool.and_eq_true] at h
  rw [stCls] at hm
  rcases List.mem_append.1 hm with hm | hm
  ·exact stCl_lt s h.1 m hm
  ·exact stCls_lt r h.2 m hm
end
theorem callsOf_lt {p : Pr} (KN : KnP p) (n : Nat) : ∀ m ∈ callsOf p n, m < p.fs.length := by
 unfold callsOf
 cases hf : p.fs[n]? with
 | none => intro m hm; simp at hm
 | some f => exact stCls_lt f.body (KN.fs f (List.mem_of_getElem? hf))
theorem sum_memC {α : Type} (g : α → Nat) : ∀ (l : List α) (x : α), x ∈ l → g x ≤ (l.map g).sum
 | y :: r, x, h => by
  simp only [List.map_cons, List.sum_cons]
  rcases List.mem_cons.1 h with rfl | h
  ·omega
  ·have := sum_memC g r x h; omega
theorem callsOf_len {p : Pr} {a : At} (h : chkPr p = .on a) (n : Nat) : (callsOf p n).length ≤ 1024 := by
 have g := (chkPr_on h).items
 unfold callsOf
 cases hf : p.fs[n]? with
 | none => simp
 | some f =>
  have h1 := stCls_len p f.body
  have h2 := sum_memC (fun f : Fu => stCounts f.body) p.fs f (List.mem_of_getElem? hf)
  unfold itemsOf at g
  dsimp only at h2 ⊢
  omega
def zc (f : Nat → Nat) : Nat → Nat
 | 0 => 0
 | n + 1 => (if f n = 0 then 1 else 0) + zc f n
theorem zc_le {f g : Nat → Nat} (h : ∀ m, f m ≠ 0 → g m ≠ 0) : ∀ n, zc g n ≤ zc f n
 | 0 => Nat.le_refl _
 | n + 1 => by
  rw [zc, zc]
  have := zc_le h n
  by_cases hg : g n = 0
  ·rw [if_pos hg, if_pos (Classical.byContradiction fun hf => h n hf hg)]; omega
  ·rw [if_neg hg]; omega
theorem plus1_ne {f : Nat → Nat} {m : Nat} : ∀ k, f k ≠ 0 → plus1 f m k ≠ 0 := fun k h => by
 unfold plus1
 split
 ·omega
 ·exact h
theorem zc_old {f : Nat → Nat} {m : Nat} (h : f m ≠ 0) : ∀ n, zc (plus1 f m) n = zc f n
 | 0 => rfl
 | n + 1 => by
  rw [zc, zc, zc_old h n]
  congr 1
  unfold plus1
  by_cases e : n = m
  ·subst e; rw [if_pos rfl, if_neg (by omega), if_neg h]
  ·rw [if_neg e]
theorem zc_beyond {f : Nat → Nat} {m : Nat} : ∀ n, n ≤ m → zc (plus1 f m) n = zc f n
 | 0, _ => rfl
 | n + 1, h => by
  have e : plus1 f m n = f n := by unfold plus1; rw [if_neg (by omega)]
  rw [zc, zc, zc_beyond n (by omega), e]
theorem zc_new {f : Nat → Nat} {m : Nat} (h : f m = 0) : ∀ n, m < n → zc (plus1 f m) n + 1 = zc f n
 | 0, hm => by omega
 | n + 1, hm => by
  rw [zc, zc]
  by_cases e : n = m
  ·subst e
   rw [zc_beyond n (Nat.le_refl _)]
   unfold plus1
   rw [if_pos rfl, if_neg (by omega), if_pos h]
   omega
  ·have := zc_new h n (by omega)
   have e2 : plus1 f m n = f n := by unfold plus1; rw [if_neg e]
   rw [e2]
   omega
theorem zc_top (f : Nat → Nat) : ∀ n, zc f n ≤ n
 | 0 => Nat.le_refl _
 | n + 1 => by rw [zc]; have := zc_top f n; split <;> omega
def bkF (f : Nat → Nat) (l : Lit) : Option Value := match l with
 | .int .i64 z => if 0 ≤ z ∧ f z.toNat ≠ 0 then some (.int .i64 (f z.toNat : Int)) else none
 | _ => none
theorem intK : Keyed Tryz.prog 3 := int_keyed Tryz.underlying3
theorem int_key {m : Nat} (h : m ≤ 1000000) : keyOf Tryz.prog 3 (.int .i64 (m : Int)) = some (.int .i64 (m : Int)) := keyOf_int_mk Tryz.underlying3 (by
 have e1 : IntKind.i64.min = -9223372036854775808 := by decide
 have e2 : IntKind.i64.max = 9223372036854775807 := by decide
 simp [Lit.wf, e1, e2]; omega)
abbrev BkAt (Mb n : Nat) (f : Nat → Nat) (w : World) : Prop := ValMap Tryz.prog 3 w Mb n (bkF f)
theorem bk_new (w : World) : BkAt w.heap.size 0 met0 (w.alloc (.map #[] 0)) := (ValMap.made Tryz.prog 3 w).congr fun l => by
 unfold bkF met0
 split
 ·rw [if_neg (fun h => h.2 rfl)]
 ·rfl
theorem bk_look {Mb n m : Nat} {f : Nat → Nat} {w : World} (h : BkAt Mb n f w) (hm : m ≤ 1000000) : (Instr.lookup 149 (.map (some Mb)) (.int .i64 (m : Int)) false).run Tryz.prog w = .ok (.int .i64 (f m : Int)) w := by
 have := ValMap.look1 h intK Tryz.underlying149 (z := .int .i64 0) (by kernel_rfl) (int_key hm)
 rw [this]
 unfold bkF
 dsimp only
 rw [Int.toNat_natCast]
 by_cases h0 : f m = 0
 ·rw [if_neg (fun hh => hh.2 h0), h0]; rfl
 ·rw [if_pos ⟨Int.natCast_nonneg _, h0⟩]; rfl
theorem bk_put {Mb n m : Nat} {f : Nat → Nat} {w : World} (h : BkAt Mb n f w) (hm : m ≤ 1000000) (hn : n < maxLen) :
  ∃ w2, (Instr.mapUpdate 149 (.map (some Mb)) (.int .i64 (m : Int)) (.int .i64 ((f m : Int) + 1))).run Tryz.prog w = .ok () w2 ∧ BkAt Mb (n + 1) (plus1 f m) w2 ∧ Kq Mb w w2 := by
 obtain ⟨w2, r2, m2, g2⟩ := ValMap.put h intK Tryz.underlying149 hn (v := .int .i64 ((f m : Int) + 1)) (int_key hm)
 refine ⟨w2, r2, m2.congr fun l => ?_, Kept.grown g2⟩
 by_cases hl : l = .int .i64 (m : Int)
 ·subst hl
  rw [updL_same]
  unfold bkF plus1
  dsimp only
  rw [Int.toNat_natCast, if_pos rfl, if_pos ⟨Int.natCast_nonneg _, by omega⟩]
  push_cast
  rfl
 ·rw [updL_ne hl]
  unfold bkF plus1
  split
  ·next z =>
   by_cases hz : 0 ≤ z
   ·have hzm : z.toNat ≠ m := fun e => hl (by rw [← e, Int.toNat_of_nonneg hz])
    rw [if_neg hzm]
   ·rw [if_neg (fun hh => hz hh.1), if_neg (fun hh => hz hh.1)]
  ·rfl
structure BgAt (K2 I2 Mc Gc Mb Ke i : Nat) (w : World) : Prop where
 k : w.heap[K2]? = some (.cells #[.pointer (some ⟨Ke, 0, none⟩)] 95 (0, 0))
 i : w.heap[I2]? = some (.cells #[.int .i64 (i : Int)] 3 (0, 0))
 m : w.heap[Mc]? = some (.cells #[.map (some Mb)] 149 (0, 0))
 g : w.heap[Gc]? = some (.cells #[.func (.func 100) #[] #[.pointer (some ⟨K2, 0, none⟩), .pointer (some ⟨I2, 0, none⟩), .pointer (some ⟨Mc, 0, none⟩), .pointer (some ⟨Gc, 0, none⟩)]] 101 (0, 0))
 ne : K2 ≠ Mb ∧ I2 ≠ Mb ∧ Mc ≠ Mb ∧ Gc ≠ Mb
theorem BgAt.kept {K2 I2 Mc Gc Mb Ke i : Nat} {w w' : World} (h : BgAt K2 I2 Mc Gc Mb Ke i w) (hk : Kq Mb w w') : BgAt K2 I2 Mc Gc Mb Ke i w' :=
 ⟨(hk.block _ (blk_lt h.k) h.ne.1).trans h.k, (hk.block _ (blk_lt h.i) h.ne.2.1).trans h.i, (hk.block _ (blk_lt h.m) h.ne.2.2.1).trans h.m, (hk.block _ (blk_lt h.g) h.ne.2.2.2).trans h.g, h.ne⟩
theorem EfIs.keptQ {B Kb Rb Fb Sb Ke Db Tb Mb : Nat} {p : Pr} {s : EfS} {w w' : World} (h : EfIs B Kb Rb Fb Sb Ke Db Tb p s w) (hne : (Mb ≠ Kb ∧ Mb ≠ Rb ∧ Mb ≠ Fb ∧ Mb ≠ Sb) ∧ (Mb ≠ Ke ∧ Mb ≠ Db ∧ Mb ≠ Tb) ∧ B ≤ Mb) (hk : Kq Mb w w') : EfIs B Kb Rb Fb Sb Ke Db Tb p s w' :=
 ⟨h.sc.kept hk (fun e => hne.1.1 e.symm) (fun e => hne.1.2.1 e.symm) (fun e => hne.1.2.2.1 e.symm) (fun e => hne.1.2.2.2 e.symm) (fun k e => by rw [e]; exact hne.2.2),
  (hk.block Ke (blk_lt h.k) (fun e => hne.2.1.1 e.symm)).trans h.k, (hk.block Db (blk_lt h.d) (fun e => hne.2.1.2.1 e.symm)).trans h.d, (hk.block Tb (blk_lt h.t) (fun e => hne.2.1.2.2 e.symm)).trans h.t,
  h.dl, h.tl, h.good, h.inv, h.few, h.far, h.ne⟩
theorem num_at {Bo : Nat} {w : World} {v : Value} {l : List Nat} (h : w.ownsRow Bo 3 1 v l.length (numV l)) : (v = .slice none 0 0 ∧ l = []) ∨ ∃ g cp cur, v = .slice (some ⟨g, 0, none⟩) l.length cp ∧ w.heap[g]? = some (.cells cur 3 (0, 0)) ∧ ∀ (j m : Nat), l[j]? = some m → cur[j]? = some (.int .i64 (m : Int)) := by
 rcases h.2 with ⟨rfl, h0⟩ | ⟨g, cp, cur, rfl, -, hg, -, -, -, ht⟩
 ·exact Or.inl ⟨rfl, List.length_eq_zero_iff.1 h0⟩
 ·refine Or.inr ⟨g, cp, cur, rfl, hg, fun j m hj => ?_⟩
  have hlt := (List.getElem?_eq_some_iff.1 hj).1
  have h1 : (numV l)[j]? = some (.int .i64 (m : Int)) := by rw [List.getElem?_map, hj]; rfl
  rw [← ht, List.getElem?_take, if_pos (by omega)] at h1
  rwa [Array.getElem?_toList] at h1
end Go.Proofs.YtkklogikakcanaaGreatDoor
namespace Go.Proofs.YtkklogikakcanaaGreatDoor
open Go Go.Maps Go.RowKit
set_option maxHeartbeats 40000000 in
set_option maxRecDepth 100000 in
theorem back1_any (B Kb Rb Fb Sb Ke Db Tb K2 I2 Mc Gc Mb : Nat) (p : Pr) (KN : KnP p) (s : EfS) (i : Nat) (hlen : ∀ n, (callsOf p n).length ≤ 1024) (hN : p.fs.length ≤ 1000000) (hne : (Mb ≠ Kb ∧ Mb ≠ Rb ∧ Mb ≠ Fb ∧ Mb ≠ Sb) ∧ (Mb ≠ Ke ∧ Mb ≠ Db ∧ Mb ≠ Tb) ∧ B ≤ Mb) :
  ∀ (z n : Nat) (f : Nat → Nat) (T : Nat) (w : World), zc f p.fs.length ≤ z → n < p.fs.length → EfIs B Kb Rb Fb Sb Ke Db Tb p s w → BgAt K2 I2 Mc Gc Mb Ke i w → BkAt Mb T f w → (∀ m, f m ≤ T) → T + zc f p.fs.length * 1024 + 1024 ≤ 2000000000 →
  Calls Tryz.prog 100 #[.int .i64 (n : Int), .pointer (some ⟨K2, 0, none⟩), .pointer (some ⟨I2, 0, none⟩), .pointer (some ⟨Mc, 0, none⟩), .pointer (some ⟨Gc, 0, none⟩)] w
   fun e w' => ∃ (b : Bool) (f' : Nat → Nat) (T' : Nat), e = .returned (.bool b) ∧ BkN p i f n b f' ∧ BkAt Mb T' f' w' ∧ (∀ m, f' m ≤ T') ∧ T' + zc f' p.fs.length * 1024 ≤ T + zc f p.fs.length * 1024 + 1024 ∧ (∀ m, f m ≠ 0 → f' m ≠ 0) ∧ Kq Mb w w' := by
 intro z
 induction z using Nat.strongRecOn with
 | ind z ih =>
 intro n f T w hz hn hE hBg hMp hfT hC
 have CL := Lib.hid (calls_any B Kb Rb Fb Sb Ke Db Tb p KN s w hE n hn (by have := hlen n; omega))
 have HLen : Hid ((callsOf p n).length ≤ 1024 ∧ ∀ m ∈ callsOf p n, m < p.fs.length) := Lib.hid ⟨hlen n, callsOf_lt KN n⟩
 have k2 := cell_at hBg.k 0
 simp only [sl7, sl8] at k2
 have HE := Lib.hid hE
 have HBg0 := Lib.hid hBg
 have HM0 := Lib.hid hMp
 have HT0 := Lib.hid (And.intro hfT hC)
 have HIh : Hid (∀ z', z' < zc f p.fs.length → ∀ (n : Nat) (f : Nat → Nat) (T : Nat) (w : World), zc f p.fs.length ≤ z' → n < p.fs.length → EfIs B Kb Rb Fb Sb Ke Db Tb p s w → BgAt K2 I2 Mc Gc Mb Ke i w → BkAt Mb T f w → (∀ m, f m ≤ T) → T + zc f p.fs.length * 1024 + 1024 ≤ 2000000000 →
  Calls Tryz.prog 100 #[.int .i64 (n : Int), .pointer (some ⟨K2, 0, none⟩), .pointer (some ⟨I2, 0, none⟩), .pointer (some ⟨Mc, 0, none⟩), .pointer (some ⟨Gc, 0, none⟩)] w
   fun e w' => ∃ (b : Bool) (f' : Nat → Nat) (T' : Nat), e = .returned (.bool b) ∧ BkN p i f n b f' ∧ BkAt Mb T' f' w' ∧ (∀ m, f' m ≤ T') ∧ T' + zc f' p.fs.length * 1024 ≤ T + zc f p.fs.length * 1024 + 1024 ∧ (∀ m, f m ≠ 0 → f' m ≠ 0) ∧ Kq Mb w w') := Lib.hid fun z' hz' => ih z' (by omega)
 have HMn : Hid (BkL p i f (callsOf p n) = BkL p i f (callsOf p n) ∧ ∀ b f', BkL p i f (callsOf p n) b f' → BkN p i f n b f') := Lib.hid ⟨rfl, fun b f' h => .mk h⟩
 have HNe := Lib.hid hne
 have HN1 := Lib.hid hN
 generalize callsOf p n = l at *
 clear hE hBg hMp hfT hC ih hz hlen hn KN hne hN
 go_enter Tryz.func100, Tryz.ntmps100
 go_wp2_with fail
 refine CL.out.mono ?_
 rintro e w5 ⟨v, rfl, hown, hb5⟩
 have HE5 := Lib.hid (HE.out.below hb5)
 have HK5 : Hid (Kq Mb w w5) := Lib.hid (Kept.of_below hb5)
 have HBg5 := Lib.hid (HBg0.out.kept HK5.out)
 have HM5 := Lib.hid (HM0.out.of_block (hb5.block Mb HM0.out.lt))
 clear hb5 CL k2 HE HBg0 HM0
 rcases num_at hown with ⟨rfl, rfl⟩ | ⟨g, cp, cur, rfl, hg, hcur⟩
 ·have HF := Lib.hid (HMn.out.2 false f .nil)
  clear hown
  go_wp2_with fail
  refine wp_loop_rounds 1 ?_
  rw [rounds_succ]
  go_wp2_with fail
  go_ret
  exact ⟨false, f, T, rfl, HF.out, HM5.out, HT0.out.1, by omega, fun m h => h, HK5.out⟩
 ·have hgM : g ≠ Mb := fun e => by
   obtain ⟨es, ck, h⟩ := HM5.out.block
   rw [← e, hg] at h
   simp at h
  have HCur : Hid (∀ W, Kq Mb w5 W → ∀ (j m : Nat), l[j]? = some m → W.cell? ⟨g, j, none⟩ = some (.int .i64 (m : Int))) := Lib.hid fun W hk j m hj => (cell_at ((hk.block g (blk_lt hg) hgM).trans hg) j).trans (hcur j m hj)
  have hll : l.length ≤ 1024 := HLen.out.1
  have HMt : Hid (∀ b f', BkL p i f l b f' → BkN p i f n b f') := Lib.hid HMn.out.2
  have HBg : Hid (∀ W, Kq Mb w5 W → BgAt K2 I2 Mc Gc Mb Ke i W) := Lib.hid fun W hk => HBg5.out.kept hk
  have HEf : Hid (∀ W, Kq Mb w5 W → EfIs B Kb Rb Fb Sb Ke Db Tb p s W) := Lib.hid fun W hk => HE5.out.keptQ HNe.out hk
  have HAc0 : Hid (T + zc f p.fs.length * 1024 + (l.length - 0) ≤ T + zc f p.fs.length * 1024 + 1024 ∧ (∀ b g, BkL p i f (l.drop 0) b g → BkL p i f l b g) ∧ (∀ m, f m ≠ 0 → f m ≠ 0) ∧ ∀ m, f m ≤ T) := Lib.hid ⟨by omega, fun b g h => by rw [List.drop_zero] at h; exact h, fun m h => h, HT0.out.1⟩
  have HKr : Hid (Kq Mb w5 w5) := Lib.hid (Kept.refl _ _)
  clear hown hg hcur hgM HMn HE5 HBg5
  go_wp2_with fail
  go_loopw [13] (fun ii wr => ∃ (j : Nat) (f1 : Nat → Nat) (T1 : Nat), ii = .int .i64 j ∧ j ≤ l.length ∧ Hid (BkAt Mb T1 f1 wr) ∧ Hid (T1 + zc f1 p.fs.length * 1024 + (l.length - j) ≤ T + zc f p.fs.length * 1024 + 1024 ∧ (∀ b g, BkL p i f1 (l.drop j) b g → BkL p i f l b g) ∧ (∀ m, f m ≠ 0 → f1 m ≠ 0) ∧ ∀ m, f1 m ≤ T1) ∧ Hid (Kq Mb w5 wr)) (fun ii _ => l.length - (intOf ii).toNat)
  case atStart => exact ⟨0, f, T, rfl, Nat.zero_le _, HM5, HAc0, HKr⟩
  case round =>
   obtain ⟨j, f1, T1, rfl, hj, hM, hAc, hK⟩ := hrel
   clear HM5 HAc0 HKr
   have p2 : (0 : Int) ≤ (j : Int) := Int.natCast_nonneg _
   by_cases hlt : j < l.length
   ·obtain ⟨m, hm⟩ : ∃ m, l[j]? = some m := ⟨_, List.getElem?_eq_getElem hlt⟩
    have hdrop : l.drop j = m :: l.drop (j + 1) := by
     have := List.drop_eq_getElem_cons hlt
     rw [List.getElem?_eq_getElem hlt] at hm
     injection hm with hm
     rw [this, hm]
    have hmN := HLen.out.2 m (List.mem_of_getElem? hm)
    have hmb : m ≤ 1000000 := by have := HN1.out; omega
    have cj := HCur.out _ hK.out j m hm
    have hBg := HBg.out _ hK.out
    have i0 := cell_at hBg.i 0
    have m0 := cell_at hBg.m 0
    simp only [sl7, sl8] at i0 m0
    have p1 : (j : Int) < (l.length : Int) := by omega
    have hA := hAc.out
    rw [hdrop] at hA
    have hTl : T1 ≤ 2000000000 := by have := HT0.out.2; have := hA.1; omega
    have HA := Lib.hid hA
    by_cases hmi : m = i
    ·have bmi : ((m : Int) == (i : Int)) = true := by rw [hmi]; simp
     have HF := Lib.hid (HMt.out true f1 (HA.out.2.1 true f1 (.hit hmi)))
     have HKf := Lib.hid (HK5.out.trans hK.out)
     clear hdrop hm hA hmi
     go_wp2_with fail
     go_ret
     exact ⟨true, f1, T1, rfl, HF.out, hM.out, HA.out.2.2.2, by have := HA.out.1; omega, HA.out.2.2.1, HKf.out⟩
    ·have bmi : ((m : Int) == (i : Int)) = false := by simp; omega
     obtain ⟨w2, up, hM2, hk2⟩ := bk_put hM.out hmb (by unfold maxLen; omega)
     have lk := bk_look hM.out hmb
     have lk2 := bk_look hM2 hmb
     rw [show plus1 f1 m m = f1 m + 1 from if_pos rfl] at lk2
     have HM2 := Lib.hid hM2
     have HK2 := Lib.hid (hK.out.trans hk2)
     have hBg2 := HBg.out _ HK2.out
     have m2 := cell_at hBg2.m 0
     have g2 := cell_at hBg2.g 0
     simp only [sl7, sl8] at m2 g2
     have HT1 : Hid (∀ q, plus1 f1 m q ≤ T1 + 1) := Lib.hid fun q => by
      have h1 := HA.out.2.2.2 m
      have h2 := HA.out.2.2.2 q
      unfold plus1
      split <;> omega
     have HNz : Hid (∀ q, f q ≠ 0 → plus1 f1 m q ≠ 0) := Lib.hid fun q h => plus1_ne q (HA.out.2.2.1 q h)
     have HHm := Lib.hid hmN
     by_cases hf0 : f1 m = 0
     ·rw [hf0] at lk up lk2
      have hzn := zc_new hf0 p.fs.length hmN
      have HI := Lib.hid (HIh.out (zc (plus1 f1 m) p.fs.length) (by have := zc_le HA.out.2.2.1 p.fs.length; omega) m (plus1 f1 m) (T1 + 1) w2 (Nat.le_refl _) hmN (HEf.out _ HK2.out) hBg2 hM2 HT1.out (by have := HT0.out.2; have := HA.out.1; omega))
      have HZ : Hid (T1 + 1 + zc (plus1 f1 m) p.fs.length * 1024 + 1024 = T1 + zc f1 p.fs.length * 1024 + 1) := Lib.hid (by omega)
      have HFd : Hid (∀ f2, BkN p i (plus1 f1 m) m true f2 → BkN p i f n true f2) := Lib.hid fun f2 h => HMt.out true f2 (HA.out.2.1 true f2 (.found hmi hf0 h))
      have HOn : Hid (∀ f2, BkN p i (plus1 f1 m) m false f2 → ∀ b g, BkL p i f2 (l.drop (j + 1)) b g → BkL p i f l b g) := Lib.hid fun f2 h b g hr => HA.out.2.1 b g (.on hmi hf0 h hr)
      clear hdrop hm hA hmi hzn hM hM2 hk2 hBg2 hBg hf0 hAc hK
      simp only [Int.natCast_zero, Int.zero_add, Nat.zero_add, Int.natCast_one, Int.ofNat_zero] at lk up lk2
      go_wp2_with fail
      refine HI.out.mono ?_
      rintro e w7 ⟨b, f2, T2, rfl, hb, hM7, hT7, hZ7, hN7, hk7⟩
      have HK7 : Hid (Kq Mb w5 w7) := Lib.hid (HK2.out.trans hk7)
      have HM7 := Lib.hid hM7
      have HA7 : Hid (T2 + zc f2 p.fs.length * 1024 + (l.length - (j + 1)) ≤ T + zc f p.fs.length * 1024 + 1024 ∧ (∀ m, f m ≠ 0 → f2 m ≠ 0) ∧ ∀ m, f2 m ≤ T2) := Lib.hid ⟨by have := HA.out.1; have := HZ.out; omega, fun q h => hN7 q (HNz.out q h), hT7⟩
      cases b with
      | true =>
       have HF := Lib.hid (HFd.out f2 hb)
       have HKf := Lib.hid (HK5.out.trans HK7.out)
       clear hb hM7 hT7 hZ7 hN7 hk7 HI lk up lk2 cj i0 m0 m2 g2
       go_wp2_with fail
       go_ret
       exact ⟨true, f2, T2, rfl, HF.out, HM7.out, HA7.out.2.2, by have := HA7.out.1; omega, HA7.out.2.1, HKf.out⟩
      | false =>
       have HAn : Hid (T2 + zc f2 p.fs.length * 1024 + (l.length - (j + 1)) ≤ T + zc f p.fs.length * 1024 + 1024 ∧ (∀ b g, BkL p i f2 (l.drop (j + 1)) b g → BkL p i f l b g) ∧ (∀ m, f m ≠ 0 → f2 m ≠ 0) ∧ ∀ m, f2 m ≤ T2) := Lib.hid ⟨HA7.out.1, HOn.out f2 hb, HA7.out.2.1, HA7.out.2.2⟩
       clear hb hM7 hT7 hZ7 hN7 hk7 HI lk up lk2 cj i0 m0 m2 g2
       go_wp2_with fail
       go_roundw
       case rel => exact ⟨j + 1, f2, T2, by go_num, by omega, HM7, HAn, HK7⟩
       case measure => simp [intOf]; omega
     ·have hzo := zc_old hf0 p.fs.length
      obtain ⟨c, hc⟩ : ∃ c, f1 m = c := ⟨_, rfl⟩
      rw [hc] at lk up lk2
      have hcT : c ≤ 2000000000 := by have := HA.out.2.2.2 m; omega
      have hc1 : (((c : Int) + 1) == 1) = false := by simp; omega
      have HAn : Hid (T1 + 1 + zc (plus1 f1 m) p.fs.length * 1024 + (l.length - (j + 1)) ≤ T + zc f p.fs.length * 1024 + 1024 ∧ (∀ b g, BkL p i (plus1 f1 m) (l.drop (j + 1)) b g → BkL p i f l b g) ∧ (∀ q, f q ≠ 0 → plus1 f1 m q ≠ 0) ∧ ∀ q, plus1 f1 m q ≤ T1 + 1) := Lib.hid ⟨by have := HA.out.1; rw [hzo]; omega, fun b g h => HA.out.2.1 b g (.met hmi hf0 h), HNz.out, HT1.out⟩
      rw [show ((c + 1 : Nat) : Int) = (c : Int) + 1 by push_cast; rfl] at lk2
      clear hdrop hm hA hmi hzo hM hM2 hk2 hBg2 hBg hf0 hc hAc hK
      go_wp2_with fail
      go_roundw
      case rel => exact ⟨j + 1, _, T1 + 1, by go_num, by omega, HM2, HAn, HK2⟩
      case measure => simp [intOf]; omega
   ·obtain rfl : j = l.length := by omega
    have HF := Lib.hid (HMt.out false f1 (hAc.out.2.1 false f1 (by rw [List.drop_length]; exact .nil)))
    have HKf := Lib.hid (HK5.out.trans hK.out)
    go_wp2_with fail
    go_ret
    exact ⟨false, f1, T1, rfl, HF.out, hM.out, hAc.out.2.2.2, by have := hAc.out.1; omega, hAc.out.2.2.1, HKf.out⟩
end Go.Proofs.YtkklogikakcanaaGreatDoor
namespace Go.Proofs.YtkklogikakcanaaGreatDoor
open Go Go.Maps Go.RowKit
set_option maxHeartbeats 8000000 in
set_option maxRecDepth 100000 in
theorem back_any (B Kb Rb Fb Sb Ke Db Tb : Nat) (p : Pr) (KN : KnP p) (s : EfS) (w : World) (h0 : EfIs B Kb Rb Fb Sb Ke Db Tb p s w) (hlen : ∀ n, (callsOf p n).length ≤ 1024) (hN : p.fs.length ≤ 1000000) (i : Nat) (hi : i < p.fs.length) :
  Calls Tryz.prog 60 #[.pointer (some ⟨Ke, 0, none⟩), .int .i64 (i : Int)] w fun e w' => ∃ b : Bool, e = .returned (.bool b) ∧ Back p i b ∧ Below w.heap.size w w' := by
 have hmf : ∀ (fn : Fn) (first cap : Array Value) (w : World), (Instr.makeFunc fn first cap).run Tryz.prog w = .ok (.func fn first cap) w := fun _ _ _ _ => rfl
 obtain ⟨X, hX⟩ : ∃ X, w.heap.size = X := ⟨_, rfl⟩
 obtain ⟨w1, hw1⟩ : ∃ w1, w.alloc (.cells #[.pointer (some ⟨Ke, 0, none⟩)] 95 (0, 0)) = w1 := ⟨_, rfl⟩
 obtain ⟨w2, hw2⟩ : ∃ w2, w1.alloc (.cells #[.int .i64 (i : Int)] 3 (0, 0)) = w2 := ⟨_, rfl⟩
 obtain ⟨w3, hw3⟩ : ∃ w3, w2.alloc (.map #[] 0) = w3 := ⟨_, rfl⟩
 obtain ⟨w4, hw4⟩ : ∃ w4, w3.alloc (.cells #[.map (some (X + 1 + 1))] 149 (0, 0)) = w4 := ⟨_, rfl⟩
 obtain ⟨w5, hw5⟩ : ∃ w5, w4.alloc (.cells #[.func (.func 100) #[] #[.pointer (some ⟨X, 0, none⟩), .pointer (some ⟨X + 1, 0, none⟩), .pointer (some ⟨X + 1 + 1 + 1, 0, none⟩), .pointer (some ⟨X + 1 + 1 + 1 + 1, 0, none⟩)]] 101 (0, 0)) = w5 := ⟨_, rfl⟩
 have hb1 : Below w.heap.size w w1 := by rw [← hw1]; exact (Below.refl _ _).alloc (Nat.le_refl _) _
 have hb2 : Below w1.heap.size w1 w2 := by rw [← hw2]; exact (Below.refl _ _).alloc (Nat.le_refl _) _
 have hb3 : Below w2.heap.size w2 w3 := by rw [← hw3]; exact (Below.refl _ _).alloc (Nat.le_refl _) _
 have hb4 : Below w3.heap.size w3 w4 := by rw [← hw4]; exact (Below.refl _ _).alloc (Nat.le_refl _) _
 have hb5 : Below w4.heap.size w4 w5 := by rw [← hw5]; exact (Below.refl _ _).alloc (Nat.le_refl _) _
 have s1 : w1.heap.size = X + 1 := by rw [← hw1, World.size_alloc, hX]
 have s2 : w2.heap.size = X + 1 + 1 := by rw [← hw2, World.size_alloc, s1]
 have s3 : w3.heap.size = X + 1 + 1 + 1 := by rw [← hw3, World.size_alloc, s2]
 have s4 : w4.heap.size = X + 1 + 1 + 1 + 1 := by rw [← hw4, World.size_alloc, s3]
 have b35 : Below w3.heap.size w3 w5 := hb4.trans (hb5.mono hb4.size)
 have b25 : Below w2.heap.size w2 w5 := hb3.trans (b35.mono hb3.size)
 have b15 : Below w1.heap.size w1 w5 := hb2.trans (b25.mono hb2.size)
 have b05 : Below w.heap.size w w5 := hb1.trans (b15.mono hb1.size)
 have xk : w5.heap[X]? = some (.cells #[.pointer (some ⟨Ke, 0, none⟩)] 95 (0, 0)) := (b15.block X (by omega)).trans (by rw [← hw1, ← hX]; exact heap_alloc_new w _)
 have xi : w5.heap[X + 1]? = some (.cells #[.int .i64 (i : Int)] 3 (0, 0)) := (b25.block (X + 1) (by omega)).trans (by rw [← hw2, ← s1]; exact heap_alloc_new w1 _)
 have xm : BkAt (X + 1 + 1) 0 met0 w5 := by
  have h := bk_new w2
  rw [hw3, s2] at h
  exact h.of_block (b35.block (X + 1 + 1) (by omega))
 have xc : w5.heap[X + 1 + 1 + 1]? = some (.cells #[.map (some (X + 1 + 1))] 149 (0, 0)) := (hb5.block (X + 1 + 1 + 1) (by omega)).trans (by rw [← hw4, ← s3]; exact heap_alloc_new w3 _)
 have xg : w5.heap[X + 1 + 1 + 1 + 1]? = some (.cells #[.func (.func 100) #[] #[.pointer (some ⟨X, 0, none⟩), .pointer (some ⟨X + 1, 0, none⟩), .pointer (some ⟨X + 1 + 1 + 1, 0, none⟩), .pointer (some ⟨X + 1 + 1 + 1 + 1, 0, none⟩)]] 101 (0, 0)) := by rw [← hw5, ← s4]; exact heap_alloc_new w4 _
 have lk := blk_lt h0.sc.k
 have lr := h0.sc.recs.lt
 have lf := h0.sc.funs.lt
 have ls := h0.sc.shs.lt
 have l1 := blk_lt h0.k
 have l2 := blk_lt h0.d
 have l3 := blk_lt h0.t
 have hBl := h0.sc.le
 have C := Lib.hid (back1_any B Kb Rb Fb Sb Ke Db Tb X (X + 1) (X + 1 + 1 + 1) (X + 1 + 1 + 1 + 1) (X + 1 + 1) p KN s i hlen hN ⟨⟨by omega, by omega, by omega, by omega⟩, ⟨by omega, by omega, by omega⟩, by omega⟩ _ i met0 0 w5 (Nat.le_refl _) hi (h0.below b05) ⟨xk, xi, xc, xg, by omega, by omega, by omega, by omega⟩ xm (fun _ => Nat.le_refl _) (by have := zc_top met0 p.fs.length; omega))
 have HB5 : Hid (∀ W, Kq (X + 1 + 1) w5 W → Below w.heap.size w W) := Lib.hid fun W hk => b05.trans (hk.below b05.size (fun k e => by rw [e]; omega))
 have g5 := cell_at xg 0
 have i5 := cell_at xi 0
 simp only [sl7, sl8] at g5 i5
 have HN : Hid (w.heap.size = X ∧ ((((w.alloc (.cells #[.pointer (some ⟨Ke, 0, none⟩)] 95 (0, 0))).alloc (.cells #[.int .i64 (i : Int)] 3 (0, 0))).alloc (.map #[] 0)).alloc (.cells #[.map (some (X + 1 + 1))] 149 (0, 0))).alloc (.cells #[.func (.func 100) #[] #[.pointer (some ⟨X, 0, none⟩), .pointer (some ⟨X + 1, 0, none⟩), .pointer (some ⟨X + 1 + 1 + 1, 0, none⟩), .pointer (some ⟨X + 1 + 1 + 1 + 1, 0, none⟩)]] 101 (0, 0)) = w5) := Lib.hid ⟨hX, by rw [hw1, hw2, hw3, hw4, hw5]⟩
 rw [← HN.out.2, ← hX] at g5 i5
 have hmk := fun W => run_makeMap_plain (P := Tryz.prog) W 149
 clear hX hw1 hw2 hw3 hw4 hw5 hb1 hb2 hb3 hb4 hb5 s1 s2 s3 s4 b35 b25 b15 b05 xk xi xm xc xg lk lr lf ls l1 l2 l3 hBl h0 hlen hi KN
 go_enter Tryz.func60, Tryz.ntmps60
 go_wp2_with fail
 simp only [HN.out.1, HN.out.2]
 refine C.out.mono ?_
 rintro e w6 ⟨b, f', T', rfl, hb, -, -, -, -, hk6⟩
 have HF : Hid (Back p i b ∧ Below w.heap.size w w6) := Lib.hid ⟨⟨f', hb⟩, HB5.out _ hk6⟩
 clear hb hk6 C g5 i5
 go_wp2_with fail
 go_ret
 exact ⟨b, rfl, HF.out.1, by first | exact HF.out.2 | (rw [← HN.out.1]; exact HF.out.2)⟩
end Go.Proofs.YtkklogikakcanaaGreatDoor
