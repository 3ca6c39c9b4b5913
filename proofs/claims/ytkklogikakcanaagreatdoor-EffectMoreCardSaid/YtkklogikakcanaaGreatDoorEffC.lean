import Derived.Test.YtkklogikakcanaaGreatDoorEffA
import Derived.Test.YtkklogikakcanaaGreatDoorTreeI
import Derived.Test.YtkklogikakcanaaGreatDoorScopeG
set_option linter.unusedVariables false
set_option linter.unusedSimpArgs false
open List renaming getElem_toArray → sl1, getElem_cons_zero → sl2, getElem_cons_succ → sl3, setIfInBounds_toArray → sl4, set_cons_zero → sl5, set_cons_succ → sl6, getElem?_toArray → sl7, getElem?_cons_zero → sl8, getElem?_cons_succ → sl9
namespace Go.Proofs.YtkklogikakcanaaGreatDoor
open Go Go.Maps Go.RowKit
abbrev XyS (X : Nat) (x y : Ex) (W : World) : Prop :=
 W.cell? ⟨X, 5, none⟩ = some (.int .u8 x.k) ∧ W.cell? ⟨X, 6, none⟩ = some (.int .i64 x.n) ∧ W.cell? ⟨X, 7, none⟩ = some (.string ⟨x.nm.toArray⟩) ∧ W.cell? ⟨X, 8, none⟩ = some (.int .u8 x.t.k) ∧ W.cell? ⟨X, 9, none⟩ = some (.string ⟨x.t.nm.toArray⟩) ∧ W.cell? ⟨X, 10, none⟩ = some (.int .i64 x.t.n) ∧ W.cell? ⟨X, 11, none⟩ = some (.slice x.d.a x.args.length x.d.c) ∧
 W.cell? ⟨X, 12, none⟩ = some (.int .u8 y.k) ∧ W.cell? ⟨X, 13, none⟩ = some (.int .i64 y.n) ∧ W.cell? ⟨X, 14, none⟩ = some (.string ⟨y.nm.toArray⟩) ∧ W.cell? ⟨X, 15, none⟩ = some (.int .u8 y.t.k) ∧ W.cell? ⟨X, 16, none⟩ = some (.string ⟨y.t.nm.toArray⟩) ∧ W.cell? ⟨X, 17, none⟩ = some (.int .i64 y.t.n) ∧ W.cell? ⟨X, 18, none⟩ = some (.slice y.d.a y.args.length y.d.c)
theorem XyS.of {X : Nat} {k : Int} {nm : List UInt8} {t : Ty} {x y : Ex} {A E : Option Addr} {l c m e : Nat} {W : World} (h : W.heap[X]? = some (stObj k nm t x y A l c E m e)) : XyS X x y W :=
 ⟨cell_at h 5, cell_at h 6, cell_at h 7, cell_at h 8, cell_at h 9, cell_at h 10, cell_at h 11, cell_at h 12, cell_at h 13, cell_at h 14, cell_at h 15, cell_at h 16, cell_at h 17, cell_at h 18⟩
def OwE (B Kb Rb Fb Sb Ke Db Tb : Nat) (p : Pr) (z : Nat) : Prop := ∀ (k : Int) (nm : List UInt8) (t : Ty) (x y : Ex) (A : Option Addr) (l c : Nat) (E : Option Addr) (m e : Nat) (s : EfS) (w : World), EfIs B Kb Rb Fb Sb Ke Db Tb p s w → zer s.st ≤ z → ExIn w B x → ExIn w B y → knE p x = true → knE p y = true →
  Calls Tryz.prog 102 #[.pointer (some ⟨Ke, 0, none⟩), .agg (stCells k nm t x y A l c E m e).toArray] w fun e w' => ∃ (a b : Nat) (s1 s2 : EfS), e = .returned (.int .u8 (((a ||| b) ||| efSt k : Nat) : Int)) ∧ EvX p s x a s1 ∧ EvX p s1 y b s2 ∧ EfIs B Kb Rb Fb Sb Ke Db Tb p s2 w' ∧ KpE Ke Db Tb w w'
set_option maxHeartbeats 40000000 in
set_option maxRecDepth 100000 in
theorem own_of (B Kb Rb Fb Sb Ke Db Tb : Nat) (p : Pr) (z : Nat) (CE : ∀ x, ExE B Kb Rb Fb Sb Ke Db Tb p z x) : OwE B Kb Rb Fb Sb Ke Db Tb p z := by
 intro k nm t x y A l c E m e s w h hz hx hy hkx hky
 obtain ⟨X, hX⟩ : ∃ X, w.heap.size = X := ⟨_, rfl⟩
 obtain ⟨w1, hw1⟩ : ∃ w1, w.alloc (stObj k nm t x y A l c E m e) = w1 := ⟨_, rfl⟩
 have hb1 : Below w.heap.size w w1 := by rw [← hw1]; exact (Below.refl _ _).alloc (Nat.le_refl _) _
 have x1 : w1.heap[X]? = some (stObj k nm t x y A l c E m e) := by rw [← hw1, ← hX]; exact heap_alloc_new w _
 have h1 := h.below hb1
 have HXn : Hid (¬ (X = Ke ∨ X = Db ∨ X = Tb)) := Lib.hid (by
  have a := blk_lt h.k
  have b := blk_lt h.d
  have c := blk_lt h.t
  omega)
 have HRow : Hid (∀ W, KpE Ke Db Tb w1 W → W.heap[X]? = some (stObj k nm t x y A l c E m e)) := Lib.hid fun W hk => (hk.block X (blk_lt x1) HXn.out).trans x1
 have HN := Lib.hid (And.intro hX hw1)
 have HK1 : Hid (KpE Ke Db Tb w w1) := Lib.hid (Kept.of_below hb1)
 have CX := Lib.hid (CE x s w1.drew h1.drew hz ((hx.keep (hb1.mono h.sc.le) (Nat.le_refl B)).keep (Below.refl B w1).drew (Nat.le_refl B)) hkx)
 have CY : Hid (∀ (s1 : EfS) (W : World), KpE Ke Db Tb w1 W → EfIs B Kb Rb Fb Sb Ke Db Tb p s1 W → zer s1.st ≤ z → Calls Tryz.prog 144 #[.pointer (some ⟨Ke, 0, none⟩), y.val] W fun e w' => ∃ (n : Nat) (s' : EfS), e = .returned (.int .u8 (n : Int)) ∧ EvX p s1 y n s' ∧ EfIs B Kb Rb Fb Sb Ke Db Tb p s' w' ∧ KpE Ke Db Tb W w') :=
  Lib.hid fun s1 W hk hE1 hz1 => CE y s1 W hE1 hz1 ((hy.keep (hb1.mono h.sc.le) (Nat.le_refl B)).keep (h1.blw hk) (Nat.le_refl B)) hky
 have HEv : Hid (∀ (n : Nat) (s' : EfS), EvX p s x n s' → n < 8 ∧ zer s'.st ≤ z) := Lib.hid fun n s' hv => ⟨(hv.good h.good).1.1, Nat.le_trans ((hv.le h.inv).zer h.few) hz⟩
 have HEw : Hid (∀ (n : Nat) (s1 s' : EfS), s1.Good → EvX p s1 y n s' → n < 8) := Lib.hid fun n s1 s' g hv => (hv.good g).1.1
 have HS : Hid (XyS X x y w1.drew) := Lib.hid (XyS.of x1)
 clear hw1 hb1 x1 h h1 hX hz hx hy CE hkx hky
 go_enter Tryz.func102, Tryz.ntmps102
 go_wp2_with fail
 simp only [HN.out.1, HN.out.2]
 refine wp_region_L (l := 9) (S := (XyS X x y)) (by kernel_rfl) ?_ (fun hHeld => ?_)
 ·((try dsimp only); (exact HS.out))
 refine wpAnyL_take (i := 0) (oi := _) (v := ?v1) rfl (by kernel_rfl) (fun _ _ _ h => h) (by assumption) (Or.inl ⟨by kernel_rfl, ?y1⟩) ?r1
 case y1 => (intro w hSw; (try dsimp only at hSw); go_simp; all_goals with_reducible rfl)
 try simp only [sl1, sl2, sl3, Act.put, sl4, sl5, sl6]
 refine wpAnyL_take (i := 1) (oi := _) (v := ?v2) rfl (by kernel_rfl) (fun _ _ _ h => h) (by assumption) (Or.inl ⟨by kernel_rfl, ?y2⟩) ?r2
 case y2 => (intro w hSw; (try dsimp only at hSw); go_simp; all_goals with_reducible rfl)
 try simp only [sl1, sl2, sl3, Act.put, sl4, sl5, sl6]
 refine wpAnyL_take (i := 2) (oi := _) (v := ?v3) rfl (by kernel_rfl) (fun _ _ _ h => h) (by assumption) (Or.inl ⟨by kernel_rfl, ?y3⟩) ?r3
 case y3 => (intro w hSw; (try dsimp only at hSw); go_simp; all_goals with_reducible rfl)
 try simp only [sl1, sl2, sl3, Act.put, sl4, sl5, sl6]
 refine wpAnyL_take (i := 4) (oi := _) (v := ?v4) rfl (by kernel_rfl) (fun _ _ _ h => h) (by assumption) (Or.inl ⟨by kernel_rfl, ?y4⟩) ?r4
 case y4 => (intro w hSw; (try dsimp only at hSw); go_simp; all_goals with_reducible rfl)
 try simp only [sl1, sl2, sl3, Act.put, sl4, sl5, sl6]
 refine wpAnyL_take (i := 5) (oi := _) (v := ?v5) rfl (by kernel_rfl) (fun _ _ _ h => h) (by assumption) (Or.inl ⟨by kernel_rfl, ?y5⟩) ?r5
 case y5 => (intro w hSw; (try dsimp only at hSw); go_simp; all_goals with_reducible rfl)
 try simp only [sl1, sl2, sl3, Act.put, sl4, sl5, sl6]
 refine wpAnyL_take (i := 6) (oi := _) (v := ?v6) rfl (by kernel_rfl) (fun _ _ _ h => h) (by assumption) (Or.inl ⟨by kernel_rfl, ?y6⟩) ?r6
 case y6 => (intro w hSw; (try dsimp only at hSw); go_simp; all_goals with_reducible rfl)
 try simp only [sl1, sl2, sl3, Act.put, sl4, sl5, sl6]
 refine wpAnyL_step (j := 3) (o := _) (by kernel_rfl) rfl (fun K hK => ?_)
 (go_simp; go_at_call 144; refine CX.out.mono ?_; rintro e2 w2 ⟨a, s1, rfl, hev, he2, hk2⟩; have HV1 := Lib.hid (And.intro hev (HEv.out _ _ hev)); have HE2 := Lib.hid he2; have HK2 : Hid (KpE Ke Db Tb w1 w2) := Lib.hid ((Kept.refl _ w1).drew.trans hk2); have HS2 : Hid (XyS X x y w2) := Lib.hid (XyS.of (HRow.out _ HK2.out)); clear hev he2 hk2)
 refine hK _ _ ?_ (fun hHeld => ?_)
 ·((try dsimp only); (exact HS2.out))
 clear hK K
 try simp only [sl1, sl2, sl3, Act.put, sl4, sl5, sl6]
 refine wpAnyL_step (j := 7) (o := _) (by kernel_rfl) rfl (fun K hK => ?_)
 (go_simp; go_at_call 144; refine (CY.out s1 w2 HK2.out HE2.out HV1.out.2.2).mono ?_; rintro e3 w3 ⟨b, s2, rfl, hev, he3, hk3⟩; have HV2 := Lib.hid (And.intro hev (HEw.out _ _ _ HE2.out.good hev)); have HE3 := Lib.hid he3; have HK3 : Hid (KpE Ke Db Tb w1 w3) := Lib.hid (HK2.out.trans hk3); have HS3 : Hid (XyS X x y w3) := Lib.hid (XyS.of (HRow.out _ HK3.out)); clear hev he3 hk3)
 refine hK _ _ ?_ (fun hHeld => ?_)
 ·((try dsimp only); (exact HS3.out))
 clear hK K
 try simp only [sl1, sl2, sl3, Act.put, sl4, sl5, sl6]
 refine wpAnyL_take (i := 8) (oi := _) (v := ?v9) rfl (by kernel_rfl) (fun _ _ _ h => h) (by assumption) (Or.inl ⟨by kernel_rfl, ?y9⟩) ?r9
 case y9 => (intro w hSw; (try dsimp only at hSw); go_simp; all_goals with_reducible rfl)
 try simp only [sl1, sl2, sl3, Act.put, sl4, sl5, sl6]
 refine wpAnyL_last (j := 9) (o := _) (by kernel_rfl) rfl (by rfl) (by kernel_rfl) (fun K hK => ?_)
 go_simp
 (refine hK _ _ ?_; clear hK K)
 try simp only [sl1, sl2, sl3, Act.put, sl4, sl5, sl6]
 have hab : a ||| b < 8 := Nat.or_lt_two_pow (n := 3) HV1.out.2.1 HV2.out.2
 rw [bits_or8 _ HV1.out.2.1 _ HV2.out.2]
 have r0 := cell_at (HRow.out _ HK3.out) 0
 simp only [sl7, sl8] at r0
 have HZ : Hid (∀ v : Nat, v = (a ||| b) ||| efSt k → ∃ (a b : Nat) (s1 s2 : EfS), Ending.returned (.int .u8 (v : Int)) = .returned (.int .u8 (((a ||| b) ||| efSt k : Nat) : Int)) ∧ EvX p s x a s1 ∧ EvX p s1 y b s2 ∧ EfIs B Kb Rb Fb Sb Ke Db Tb p s2 w3 ∧ KpE Ke Db Tb w w3) :=
  Lib.hid fun v hv => ⟨a, b, s1, s2, by rw [hv], HV1.out.1, HV2.out.1, HE3.out, HK1.out.trans HK3.out⟩
 clear HS HS2 HS3 hHeld CX CY HV1 HV2 HE2 HE3 HK1 HK2 HK3 HEv HEw HRow
 generalize a ||| b = ab at *
 by_cases h5 : k = 5
 ·subst h5
  have H2 := Lib.hid (bits_or8 ab hab 2 (by decide))
  have H4 := Lib.hid (bits_or8 (ab ||| 2) (Nat.or_lt_two_pow (n := 3) hab (by decide)) 4 (by decide))
  have HT := Lib.hid (HZ.out ((ab ||| 2) ||| 4) (by rw [Nat.or_assoc]; rfl))
  rw [← H4.out, ← H2.out] at HT
  clear HZ H2 H4
  go_wp2_with fail
  go_ret
  exact HT.out
 by_cases h6 : k = 6
 ·subst h6
  have H4 := Lib.hid (bits_or8 ab hab 4 (by decide))
  have HT := Lib.hid (HZ.out (ab ||| 4) rfl)
  rw [← H4.out] at HT
  clear HZ H4
  go_wp2_with fail
  go_ret
  exact HT.out
 have b5 : (k == 5) = false := by simpa using h5
 have b6 : (k == 6) = false := by simpa using h6
 have HT := Lib.hid (HZ.out ab (by unfold efSt; rw [if_neg h5, if_neg h6, Nat.or_zero]))
 clear HZ h5 h6
 go_wp2_with fail
 go_ret
 exact HT.out
end Go.Proofs.YtkklogikakcanaaGreatDoor
namespace Go.Proofs.YtkklogikakcanaaGreatDoor
open Go Go.Maps Go.RowKit
abbrev LiS (X : Nat) (A : Option Addr) (l c : Nat) (E : Option Addr) (m e : Nat) (W : World) : Prop := W.cell? ⟨X, 19, none⟩ = some (.slice A l c) ∧ W.cell? ⟨X, 20, none⟩ = some (.slice E m e)
theorem plSts_drop (q : Nat) (l : List St) : plSts (l.drop q) ≤ plSts l := by
 induction l generalizing q with
 | nil => simp
 | cons x r ih => cases q with
  | zero => simp
  | succ q => simp only [List.drop_succ_cons]; have := ih q; rw [plSts]; omega
theorem cut_lt {k : Int} {e : Nat} (h : e < 8) : efCut k e < 8 := by
 unfold efCut
 split
 ·exact Nat.lt_of_le_of_lt Nat.and_le_left h
 ·exact h
theorem own_lt {k : Int} {a b : Nat} (ha : a < 8) (hb : b < 8) : (a ||| b) ||| efSt k < 8 := Nat.or_lt_two_pow (n := 3) (Nat.or_lt_two_pow (n := 3) ha hb) (efGood_st k).1
set_option maxHeartbeats 40000000 in
set_option maxRecDepth 100000 in
theorem list_of (B Kb Rb Fb Sb Ke Db Tb : Nat) (p : Pr) (z : Nat) (CO : OwE B Kb Rb Fb Sb Ke Db Tb p z) : ∀ (sz : Nat) (l : List St), plSts l ≤ sz → StE B Kb Rb Fb Sb Ke Db Tb p z l := by
 intro sz
 induction sz using Nat.strongRecOn with
 | ind sz ih =>
 intro l hsz0 d s w h hz hI hkn
 have HE1 := Lib.hid h
 have HI : Hid (∀ W, KpE Ke Db Tb w W → StsIn W B d l) := Lib.hid fun W hk => hI.keep (h.blw hk) (Nat.le_refl B)
 have HKn : Hid (∀ y ∈ l, knS p y = true) := Lib.hid fun y hy => knSs_mem hkn hy
 have p3 : l.length ≤ 140737488355328 := hI.len
 have HAc0 : Hid (0 < 8 ∧ zer s.st ≤ z ∧ ∀ es s2, EvSs p s (l.drop 0) es s2 → EvSs p s l (0 ||| es) s2) := Lib.hid ⟨by decide, hz, fun es s2 hs => by rw [List.drop_zero] at hs; rw [Nat.zero_or]; exact hs⟩
 have HK0 : Hid (KpE Ke Db Tb w w) := Lib.hid (Kept.refl _ _)
 have HIh : Hid (∀ b : List St, plSts b < plSts l → StE B Kb Rb Fb Sb Ke Db Tb p z b) := Lib.hid fun b hb => ih (plSts b) (by omega) b (Nat.le_refl _)
 clear h hI hkn hz ih hsz0
 go_enter Tryz.func140, Tryz.ntmps140
 go_wp2_with fail
 go_loopw [5, 11] (fun ee ii wr => ∃ (j m : Nat) (s' : EfS), ee = .int .u8 (m : Int) ∧ ii = .int .i64 j ∧ j ≤ l.length ∧ Hid (m < 8 ∧ zer s'.st ≤ z ∧ ∀ es s2, EvSs p s' (l.drop j) es s2 → EvSs p s l (m ||| es) s2) ∧ Hid (EfIs B Kb Rb Fb Sb Ke Db Tb p s' wr) ∧ Hid (KpE Ke Db Tb w wr)) (fun _ ii _ => l.length - (intOf ii).toNat)
 case atStart => exact ⟨0, 0, s, rfl, rfl, Nat.zero_le _, HAc0, HE1, HK0⟩
 case round =>
  obtain ⟨j, m, s1, rfl, rfl, hj, hAc, hE, hK⟩ := hrel
  clear HAc0 HE1 HK0
  have p2 : (0 : Int) ≤ (j : Int) := Int.natCast_nonneg _
  by_cases hlt : j < l.length
  ·obtain ⟨y, hy⟩ : ∃ y, l[j]? = some y := ⟨_, List.getElem?_eq_getElem hlt⟩
   have hdrop : l.drop j = y :: l.drop (j + 1) := by
    have := List.drop_eq_getElem_cons hlt
    rw [List.getElem?_eq_getElem hlt] at hy
    injection hy with hy
    rw [this, hy]
   have hmem := List.mem_of_getElem? hy
   have hIr := HI.out _ hK.out
   obtain ⟨rb, ro, hda, hrb, hrow⟩ := hIr.row (by intro h0; rw [h0] at hlt; simp at hlt)
   have hsa := hrow j y hy
   have hsI := hIr.sub y hmem
   have hle := plSts_drop j l
   rw [hdrop, plSts] at hle
   have hkn := HKn.out y hmem
   obtain ⟨k, nm, t, x, u, bd, body, ed, els⟩ := y
   rw [plSt] at hle
   rw [knS] at hkn
   simp only [Bool.and_eq_true] at hkn
   have hz := hsa.cells
   dsimp only [St.k, St.nm, St.t, St.x, St.y, St.bd, St.body, St.ed, St.els] at hz
   obtain ⟨X6, hX6⟩ : ∃ X6, wr.heap.size = X6 := ⟨_, rfl⟩
   obtain ⟨w6, hw6⟩ : ∃ w6, wr.alloc (stObj k nm t x u bd.a body.length bd.c ed.a els.length ed.c) = w6 := ⟨_, rfl⟩
   have hb6 : Below wr.heap.size wr w6 := by rw [← hw6]; exact (Below.refl _ _).alloc (Nat.le_refl _) _
   have x6 : w6.heap[X6]? = some (stObj k nm t x u bd.a body.length bd.c ed.a els.length ed.c) := by rw [← hw6, ← hX6]; exact heap_alloc_new wr _
   have h6 := hE.out.below hb6
   have HXn : Hid (¬ (X6 = Ke ∨ X6 = Db ∨ X6 = Tb)) := Lib.hid (by
    have a := blk_lt hE.out.k
    have b := blk_lt hE.out.d
    have c := blk_lt hE.out.t
    omega)
   have HRow : Hid (∀ W, KpE Ke Db Tb w6 W → W.heap[X6]? = some (stObj k nm t x u bd.a body.length bd.c ed.a els.length ed.c)) := Lib.hid fun W hk => (hk.block X6 (blk_lt x6) HXn.out).trans x6
   have HKw : Hid (∀ W, KpE Ke Db Tb w6 W → KpE Ke Db Tb w W) := Lib.hid fun W hk => (hK.out.behind hb6).trans hk
   have HSI : Hid (∀ W, KpE Ke Db Tb w6 W → StIn W B (.mk k nm t x u bd body ed els)) := Lib.hid fun W hk => (hsI.keep (hb6.mono hE.out.sc.le) (Nat.le_refl B)).keep (h6.blw hk) (Nat.le_refl B)
   have CB := Lib.hid (HIh.out body (by omega) bd s1 w6.drew h6.drew hAc.out.2.1 ((HSI.out _ (Kept.refl _ _).drew).body) hkn.2.1)
   have CL : Hid (∀ (s2 : EfS) (W : World), KpE Ke Db Tb w6 W → EfIs B Kb Rb Fb Sb Ke Db Tb p s2 W → zer s2.st ≤ z → Calls Tryz.prog 140 #[.pointer (some ⟨Ke, 0, none⟩), .slice ed.a els.length ed.c] W fun e w' => ∃ (n : Nat) (s' : EfS), e = .returned (.int .u8 (n : Int)) ∧ EvSs p s2 els n s' ∧ EfIs B Kb Rb Fb Sb Ke Db Tb p s' w' ∧ KpE Ke Db Tb W w') :=
    Lib.hid fun s2 W hk he2 hz2 => HIh.out els (by omega) ed s2 W he2 hz2 ((HSI.out _ hk).els) hkn.2.2
   have COw : Hid (∀ (s2 : EfS) (W : World), KpE Ke Db Tb w6 W → EfIs B Kb Rb Fb Sb Ke Db Tb p s2 W → zer s2.st ≤ z → Calls Tryz.prog 102 #[.pointer (some ⟨Ke, 0, none⟩), .agg (stCells k nm t x u bd.a body.length bd.c ed.a els.length ed.c).toArray] W fun e w' => ∃ (a b : Nat) (s3 s4 : EfS), e = .returned (.int .u8 (((a ||| b) ||| efSt k : Nat) : Int)) ∧ EvX p s2 x a s3 ∧ EvX p s3 u b s4 ∧ EfIs B Kb Rb Fb Sb Ke Db Tb p s4 w' ∧ KpE Ke Db Tb W w') :=
    Lib.hid fun s2 W hk he2 hz2 => CO k nm t x u bd.a body.length bd.c ed.a els.length ed.c s2 W he2 hz2 (HSI.out _ hk).x (HSI.out _ hk).y hkn.1.1 hkn.1.2
   have HZr : Hid (∀ (s2 : EfS) (b : List St) (n : Nat) (s3 : EfS), s2.Good → s2.Inv → s2.Few → zer s2.st ≤ z → EvSs p s2 b n s3 → n < 8 ∧ zer s3.st ≤ z) := Lib.hid fun s2 b n s3 g i f hz hv => ⟨(hv.good g).1.1, Nat.le_trans ((hv.le i).zer f) hz⟩
   have HZx : Hid (∀ (s2 : EfS) (b : Ex) (n : Nat) (s3 : EfS), s2.Good → s2.Inv → s2.Few → zer s2.st ≤ z → EvX p s2 b n s3 → n < 8 ∧ zer s3.st ≤ z ∧ s3.Good ∧ s3.Inv ∧ s3.Few) := Lib.hid fun s2 b n s3 g i f hz hv => ⟨(hv.good g).1.1, Nat.le_trans ((hv.le i).zer f) hz, (hv.good g).2, (hv.le i).inv, hv.few f⟩
   have HAc : Hid (m < 8 ∧ ∀ eb s2 ee s3 ex s4 ey s5, EvSs p s1 body eb s2 → EvSs p s2 els ee s3 → EvX p s3 x ex s4 → EvX p s4 u ey s5 → ∀ es s7, EvSs p s5 (l.drop (j + 1)) es s7 → EvSs p s l ((m ||| (efCut k (eb ||| ee) ||| ((ex ||| ey) ||| efSt k))) ||| es) s7) := Lib.hid ⟨hAc.out.1, fun eb s2 ee s3 ex s4 ey s5 g1 g2 g3 g4 es s7 g5 => by
    rw [Nat.or_assoc]
    exact hAc.out.2.2 _ _ (by rw [hdrop]; exact .cons g1 g2 g3 g4 g5)⟩
   have HE6 := Lib.hid h6
   have HS6 : Hid (LiS X6 bd.a body.length bd.c ed.a els.length ed.c w6.drew) := Lib.hid ⟨cell_at x6 19, cell_at x6 20⟩
   have HZ1 : Hid (zer s1.st ≤ z) := Lib.hid hAc.out.2.1
   have p1 : (j : Int) < (l.length : Int) := by omega
   have HNm := Lib.hid (And.intro hX6 hw6)
   clear hb6 x6 hrow hIr hdrop hX6 hw6 hK hE hAc hle hsa hsI h6 hmem hy hkn hrb
   rw [hda]
   go_wp2_with (first | (refine wpList_load_list rfl 72 _ rfl _ rfl (stCells k nm t x u bd.a body.length bd.c ed.a els.length ed.c) _ hz Tryz.underlying72 rfl (stSize ..) ?_) | (refine wpList_store_row rfl 72 _ _ rfl wr.heap.size (stCells k nm t x u bd.a body.length bd.c ed.a els.length ed.c).toArray rfl rfl 72 _ (heap_alloc_new wr _) (stSizeA ..) rfl (stOne ..) ?_; rw [alloc_setRow _ _ _ _ _ rfl]))
   simp only [HNm.out.1, HNm.out.2]
   clear hz hda
   refine wp_region_L (l := 9) (S := (LiS X6 bd.a body.length bd.c ed.a els.length ed.c)) (by kernel_rfl) ?_ (fun hHeld => ?_)
   ·((try dsimp only); (exact HS6.out))
   refine wpAnyL_take (i := 0) (oi := _) (v := ?v11) rfl (by kernel_rfl) (fun _ _ _ h => h) (by assumption) (Or.inl ⟨by kernel_rfl, ?y11⟩) ?r11
   case y11 => (intro w hSw; (try dsimp only at hSw); go_simp; all_goals with_reducible rfl)
   try simp only [sl1, sl2, sl3, Act.put, sl4, sl5, sl6]
   refine wpAnyL_take (i := 1) (oi := _) (v := ?v12) rfl (by kernel_rfl) (fun _ _ _ h => h) (by assumption) (Or.inl ⟨by kernel_rfl, ?y12⟩) ?r12
   case y12 => (intro w hSw; (try dsimp only at hSw); go_simp; all_goals with_reducible rfl)
   try simp only [sl1, sl2, sl3, Act.put, sl4, sl5, sl6]
   refine wpAnyL_take (i := 2) (oi := _) (v := ?v13) rfl (by kernel_rfl) (fun _ _ _ h => h) (by assumption) (Or.inl ⟨by kernel_rfl, ?y13⟩) ?r13
   case y13 => (intro w hSw; (try dsimp only at hSw); go_simp; all_goals with_reducible rfl)
   try simp only [sl1, sl2, sl3, Act.put, sl4, sl5, sl6]
   refine wpAnyL_take (i := 4) (oi := _) (v := ?v14) rfl (by kernel_rfl) (fun _ _ _ h => h) (by assumption) (Or.inl ⟨by kernel_rfl, ?y14⟩) ?r14
   case y14 => (intro w hSw; (try dsimp only at hSw); go_simp; all_goals with_reducible rfl)
   try simp only [sl1, sl2, sl3, Act.put, sl4, sl5, sl6]
   refine wpAnyL_take (i := 5) (oi := _) (v := ?v15) rfl (by kernel_rfl) (fun _ _ _ h => h) (by assumption) (Or.inl ⟨by kernel_rfl, ?y15⟩) ?r15
   case y15 => (intro w hSw; (try dsimp only at hSw); go_simp; all_goals with_reducible rfl)
   try simp only [sl1, sl2, sl3, Act.put, sl4, sl5, sl6]
   refine wpAnyL_take (i := 6) (oi := _) (v := ?v16) rfl (by kernel_rfl) (fun _ _ _ h => h) (by assumption) (Or.inl ⟨by kernel_rfl, ?y16⟩) ?r16
   case y16 => (intro w hSw; (try dsimp only at hSw); go_simp; all_goals with_reducible rfl)
   try simp only [sl1, sl2, sl3, Act.put, sl4, sl5, sl6]
   refine wpAnyL_step (j := 3) (o := _) (by kernel_rfl) rfl (fun K hK => ?_)
   (go_simp; go_at_call 140; refine CB.out.mono ?_; rintro e7 w7 ⟨eb, s2, rfl, hev, he7, hk7⟩; have HV7 := Lib.hid (And.intro hev (HZr.out _ _ _ _ HE6.out.good HE6.out.inv HE6.out.few HZ1.out hev)); have HE7 := Lib.hid he7; have HK7 : Hid (KpE Ke Db Tb w6 w7) := Lib.hid ((Kept.refl _ w6).drew.trans hk7); have HS7 : Hid (LiS X6 bd.a body.length bd.c ed.a els.length ed.c w7) := Lib.hid ⟨cell_at (HRow.out _ HK7.out) 19, cell_at (HRow.out _ HK7.out) 20⟩; clear hev he7 hk7)
   refine hK _ _ ?_ (fun hHeld => ?_)
   ·((try dsimp only); (exact HS7.out))
   clear hK K
   try simp only [sl1, sl2, sl3, Act.put, sl4, sl5, sl6]
   refine wpAnyL_step (j := 7) (o := _) (by kernel_rfl) rfl (fun K hK => ?_)
   (go_simp; go_at_call 140; refine (CL.out s2 w7 HK7.out HE7.out HV7.out.2.2).mono ?_; rintro e8 w8 ⟨ee, s3, rfl, hev, he8, hk8⟩; have HV8 := Lib.hid (And.intro hev (HZr.out _ _ _ _ HE7.out.good HE7.out.inv HE7.out.few HV7.out.2.2 hev)); have HE8 := Lib.hid he8; have HK8 : Hid (KpE Ke Db Tb w6 w8) := Lib.hid (HK7.out.trans hk8); have HS8 : Hid (LiS X6 bd.a body.length bd.c ed.a els.length ed.c w8) := Lib.hid ⟨cell_at (HRow.out _ HK8.out) 19, cell_at (HRow.out _ HK8.out) 20⟩; clear hev he8 hk8)
   refine hK _ _ ?_ (fun hHeld => ?_)
   ·((try dsimp only); (exact HS8.out))
   clear hK K
   try simp only [sl1, sl2, sl3, Act.put, sl4, sl5, sl6]
   refine wpAnyL_take (i := 8) (oi := _) (v := ?v19) rfl (by kernel_rfl) (fun _ _ _ h => h) (by assumption) (Or.inl ⟨by kernel_rfl, ?y19⟩) ?r19
   case y19 => (intro w hSw; (try dsimp only at hSw); go_simp; all_goals with_reducible rfl)
   try simp only [sl1, sl2, sl3, Act.put, sl4, sl5, sl6]
   refine wpAnyL_last (j := 9) (o := _) (by kernel_rfl) rfl (by rfl) (by kernel_rfl) (fun K hK => ?_)
   go_simp
   (refine hK _ _ ?_; clear hK K)
   try simp only [sl1, sl2, sl3, Act.put, sl4, sl5, sl6]
   have hin : eb ||| ee < 8 := Nat.or_lt_two_pow (n := 3) HV7.out.2.1 HV8.out.2.1
   rw [bits_or8 _ HV7.out.2.1 _ HV8.out.2.1]
   have HCut : Hid (∀ ic : Nat, ic = efCut k (eb ||| ee) → ic < 8 ∧ ∀ ex s4 ey s5, EvX p s3 x ex s4 → EvX p s4 u ey s5 → ((ex ||| ey) ||| efSt k < 8) ∧ m ||| (ic ||| ((ex ||| ey) ||| efSt k)) < 8 ∧ zer s5.st ≤ z ∧ ∀ es s7, EvSs p s5 (l.drop (j + 1)) es s7 → EvSs p s l ((m ||| (ic ||| ((ex ||| ey) ||| efSt k))) ||| es) s7) :=
    Lib.hid fun ic hic => ⟨by rw [hic]; exact cut_lt hin, fun ex s4 ey s5 g1 g2 => by
     obtain ⟨a1, a2, a3, a4, a5⟩ := HZx.out _ _ _ _ HE8.out.good HE8.out.inv HE8.out.few HV8.out.2.2 g1
     obtain ⟨b1, b2, b3, b4, b5⟩ := HZx.out _ _ _ _ a3 a4 a5 a2 g2
     have h1 : (ex ||| ey) ||| efSt k < 8 := own_lt a1 b1
     refine ⟨h1, Nat.or_lt_two_pow (n := 3) HAc.out.1 (Nat.or_lt_two_pow (n := 3) (by rw [hic]; exact cut_lt hin) h1), b2, fun es s7 g => ?_⟩
     rw [hic]
     exact HAc.out.2 _ _ _ _ _ _ _ _ HV7.out.1 HV8.out.1 g1 g2 es s7 g⟩
   have COw2 := Lib.hid (COw.out s3 w8 HK8.out HE8.out HV8.out.2.2)
   have hrow8 := HRow.out _ HK8.out
   have r0 := cell_at hrow8 0
   have z8 := row_cells (vs := stCells k nm t x u bd.a body.length bd.c ed.a els.length ed.c) (w := w8) hrow8
   simp only [sl7, sl8] at r0
   have hm8 : m < 8 := HAc.out.1
   clear hrow8 hHeld HS6 HS7 HS8 CB CL COw HV7 HE6 HE7 HK7 HZr HZx HAc HSI HXn HRow
   generalize eb ||| ee = ic0 at *
   by_cases h5 : k = 5
   ·subst h5
    obtain ⟨hi8, HC⟩ := HCut.out (ic0 &&& 6) rfl
    have HC2 := Lib.hid HC
    have HBc : Hid (bits BinOp.andNot IntKind.u8 (ic0 : Int) 1 = ((ic0 &&& 6 : Nat) : Int)) := Lib.hid (bits_cut8 ic0 hin)
    clear HC HCut hin
    go_wp2_with (refine wpList_load_list rfl 72 _ rfl _ rfl (stCells 5 nm t x u bd.a body.length bd.c ed.a els.length ed.c) _ z8 Tryz.underlying72 rfl (stSize ..) ?_)
    refine COw2.out.mono ?_
    rintro e9 w9 ⟨ex, ey, s4, s5, rfl, hx9, hy9, he9, hk9⟩
    obtain ⟨ho8, hm9, hz9, hn9⟩ := HC2.out _ _ _ _ hx9 hy9
    have HE9 := Lib.hid he9
    have HK9 : Hid (KpE Ke Db Tb w w9) := Lib.hid (HKw.out _ (HK8.out.trans hk9))
    have HAn : Hid (m ||| ((ic0 &&& 6) ||| ((ex ||| ey) ||| efSt 5)) < 8 ∧ zer s5.st ≤ z ∧ ∀ es s7, EvSs p s5 (l.drop (j + 1)) es s7 → EvSs p s l ((m ||| ((ic0 &&& 6) ||| ((ex ||| ey) ||| efSt 5))) ||| es) s7) := Lib.hid ⟨hm9, hz9, hn9⟩
    have HBt := Lib.hid (And.intro (bits_or8 m hm8 ((ic0 &&& 6) ||| ((ex ||| ey) ||| efSt 5)) (Nat.or_lt_two_pow (n := 3) hi8 ho8)) (bits_or8 (ic0 &&& 6) hi8 ((ex ||| ey) ||| efSt 5) ho8))
    clear hx9 hy9 he9 hk9 ho8 hm9 hz9 hn9 hm8 hi8 z8 r0 HE8 HK8 COw2 HC2 HV8
    go_wp2_with fail
    go_roundw
    case rel => exact ⟨j + 1, m ||| ((ic0 &&& 6) ||| ((ex ||| ey) ||| efSt 5)), s5, by rw [HBc.out, HBt.out.2, HBt.out.1], by go_num, by omega, HAn, HE9, HK9⟩
    case measure => simp [intOf]; omega
   ·obtain ⟨hi8, HC⟩ := HCut.out ic0 (by unfold efCut; rw [if_neg h5])
    have HC2 := Lib.hid HC
    have b5 : (k == 5) = false := by simpa using h5
    clear HC HCut h5 hin
    go_wp2_with (refine wpList_load_list rfl 72 _ rfl _ rfl (stCells k nm t x u bd.a body.length bd.c ed.a els.length ed.c) _ z8 Tryz.underlying72 rfl (stSize ..) ?_)
    refine COw2.out.mono ?_
    rintro e9 w9 ⟨ex, ey, s4, s5, rfl, hx9, hy9, he9, hk9⟩
    obtain ⟨ho8, hm9, hz9, hn9⟩ := HC2.out _ _ _ _ hx9 hy9
    have HE9 := Lib.hid he9
    have HK9 : Hid (KpE Ke Db Tb w w9) := Lib.hid (HKw.out _ (HK8.out.trans hk9))
    have HAn : Hid (m ||| (ic0 ||| ((ex ||| ey) ||| efSt k)) < 8 ∧ zer s5.st ≤ z ∧ ∀ es s7, EvSs p s5 (l.drop (j + 1)) es s7 → EvSs p s l ((m ||| (ic0 ||| ((ex ||| ey) ||| efSt k))) ||| es) s7) := Lib.hid ⟨hm9, hz9, hn9⟩
    have HBt := Lib.hid (And.intro (bits_or8 m hm8 (ic0 ||| ((ex ||| ey) ||| efSt k)) (Nat.or_lt_two_pow (n := 3) hi8 ho8)) (bits_or8 ic0 hi8 ((ex ||| ey) ||| efSt k) ho8))
    clear hx9 hy9 he9 hk9 ho8 hm9 hz9 hn9 hm8 hi8 z8 r0 HE8 HK8 COw2 HC2 HV8
    go_wp2_with fail
    go_roundw
    case rel => exact ⟨j + 1, m ||| (ic0 ||| ((ex ||| ey) ||| efSt k)), s5, by rw [HBt.out.2, HBt.out.1], by go_num, by omega, HAn, HE9, HK9⟩
    case measure => simp [intOf]; omega
  ·obtain rfl : j = l.length := by omega
   have HF : Hid (EvSs p s l m s1) := Lib.hid (by
    have h := hAc.out.2.2 0 s1 (by rw [List.drop_length]; exact .nil)
    rwa [Nat.or_zero] at h)
   clear hAc
   go_wp2_with fail
   go_ret
   exact ⟨m, s1, rfl, HF.out, hE.out, hK.out⟩
end Go.Proofs.YtkklogikakcanaaGreatDoor
namespace Go.Proofs.YtkklogikakcanaaGreatDoor
open Go Go.Maps Go.RowKit
abbrev OfS (Ke Db rb ro i n : Nat) (fr : Option Addr) (fc : Nat) (bd : Hd) (bl : Nat) (W : World) : Prop := W.cell? ⟨Ke, 5, none⟩ = some (.slice (some ⟨Db, 0, none⟩) n n) ∧ W.cell? ⟨Ke, 2, none⟩ = some (.slice fr n fc) ∧ W.cell? ⟨rb, ro + i * 6 + 5, none⟩ = some (.slice bd.a bl bd.c)
set_option maxHeartbeats 40000000 in
set_option maxRecDepth 100000 in
theorem of_of (B Kb Rb Fb Sb Ke Db Tb : Nat) (p : Pr) (KN : KnP p) (z : Nat) (CL : ∀ z', z' < z → ∀ l, StE B Kb Rb Fb Sb Ke Db Tb p z' l) : OfE B Kb Rb Fb Sb Ke Db Tb p z := by
 intro i s w hi h hz
 have hit : i < s.st.length := by rw [h.tl]; exact hi
 have hid : i < s.does.length := by rw [h.dl]; exact hi
 obtain ⟨e0, he0⟩ : ∃ e0, s.st[i]? = some e0 := ⟨_, List.getElem?_eq_getElem hit⟩
 obtain ⟨d0, hd0⟩ : ∃ d0, s.does[i]? = some d0 := ⟨_, List.getElem?_eq_getElem hid⟩
 have hgd : s.does.getD i 0 = d0 := by rw [List.getD_eq_getElem?_getD, hd0]; rfl
 have h2 := h.few e0 (List.mem_of_getElem? he0)
 have k6 := cell_at h.k 6
 have k5 := cell_at h.k 5
 have t0 : w.cell? ⟨Tb, i, none⟩ = some (.int .i64 (e0 : Int)) := (cell_at h.t i).trans (lookV he0)
 have p1 : (i : Int) < (p.fs.length : Int) := by omega
 have p2 : (0 : Int) ≤ (i : Int) := Int.natCast_nonneg _
 simp only [sl7, sl8, sl9] at k6 k5
 have HE := Lib.hid h
 have HKr : Hid (KpE Ke Db Tb w w) := Lib.hid (Kept.refl _ _)
 have HZ := Lib.hid hz
 have h012 : e0 = 2 ∨ e0 = 1 ∨ e0 = 0 := by omega
 rcases h012 with rfl | rfl | rfl
 ·
  have HO : Hid (EvO p s i d0 s) := Lib.hid (by rw [← hgd]; exact .known he0)
  have c0 : w.cell? ⟨Db, i, none⟩ = some (.int .u8 (d0 : Int)) := (cell_at h.d i).trans (lookV hd0)
  clear h hz hit hid he0 hd0 hgd h2 CL
  go_enter Tryz.func99, Tryz.ntmps99
  go_wp2_with fail
  go_ret
  exact ⟨d0, s, rfl, HO.out, HE.out, HKr.out⟩
 ·
  have HO : Hid (EvO p s i d0 ⟨s.does, s.st, true⟩) := Lib.hid (by rw [← hgd]; exact .busy he0)
  have h3 := h.ringed
  have f7 := frz_at h.k 7
  have k7 := cell_at h.k 7
  have c5 := cell_at h3.1.k 5
  have c0 : (w.setCell ⟨Ke, 7, none⟩ (.bool true)).cell? ⟨Db, i, none⟩ = some (.int .u8 (d0 : Int)) := (cell_at h3.1.d i).trans (lookV hd0)
  simp only [sl7, sl8, sl9] at k7 c5
  have HE3 := Lib.hid h3
  clear h hz hit hid he0 hd0 hgd h2 CL h3 k5
  go_enter Tryz.func99, Tryz.ntmps99
  go_wp2_with fail
  go_ret
  exact ⟨d0, _, rfl, HO.out, HE3.out.1, HE3.out.2⟩
 ·
  obtain ⟨f, hf⟩ : ∃ f, p.fs[i]? = some f := ⟨_, List.getElem?_eq_getElem hi⟩
  have hmem := List.mem_of_getElem? hf
  have hl := h.look he0
  have hIn := hl.1.sc.inn
  obtain ⟨rb, ro, hda, hrb, hrow⟩ := hIn.frow (by intro h0; rw [h0] at hi; simp at hi)
  have z5 := (hrow i f hf).c5
  have hzs := zer_set s.st i 1 he0 (by decide)
  obtain ⟨w1, hw1⟩ : ∃ w1, w.setCell ⟨Tb, i, none⟩ (.int .i64 1) = w1 := ⟨_, rfl⟩
  rw [hw1] at hl hIn z5
  have C := Lib.hid (CL (zer (s.st.set i 1)) (by omega) f.body f.bd _ w1.drew hl.1.drew (Nat.le_refl _) ((hIn.fsub f hmem).body.keep (Below.refl _ _).drew (Nat.le_refl B)) (KN.fs f hmem))
  have HS : Hid (OfS Ke Db rb ro i p.fs.length (some ⟨rb, ro, none⟩) p.fd.c f.bd f.body.length w1.drew) := Lib.hid ⟨cell_at hl.1.k 5, by rw [← hda]; exact cell_at hl.1.k 2, z5⟩
  have HSk : Hid (∀ s' W, KpE Ke Db Tb w1 W → EfIs B Kb Rb Fb Sb Ke Db Tb p s' W → OfS Ke Db rb ro i p.fs.length (some ⟨rb, ro, none⟩) p.fd.c f.bd f.body.length W) := Lib.hid fun s' W hk he => ⟨cell_at he.k 5, by rw [← hda]; exact cell_at he.k 2,
   (hk.cell (p := ⟨rb, _, none⟩) (Nat.lt_of_lt_of_le hrb hl.1.sc.le) (fun e => absurd (hl.1.far rb e).2.2.2.2 (by omega))).trans z5⟩
  have ft := frz_at h.t i
  have HL := Lib.hid hl
  have HF := Lib.hid (And.intro hf (And.intro he0 hid))
  have HN := Lib.hid hw1
  have HGd : Hid s.Good := Lib.hid h.good
  have hfe : s.Inv := h.inv
  have HInv := Lib.hid hfe
  clear h hz hit hid hd0 hgd h2 CL hl hIn hrow hrb z5 hzs hmem hf he0 hw1 hfe
  go_enter Tryz.func99, Tryz.ntmps99
  go_wp2_with fail
  simp only [HN.out]
  refine wp_region_L (l := 17) (S := (OfS Ke Db rb ro i p.fs.length (some ⟨rb, ro, none⟩) p.fd.c f.bd f.body.length)) (by kernel_rfl) ?_ (fun hHeld => ?_)
  ·((try dsimp only); (exact HS.out))
  refine wpAnyL_take (i := 0) (oi := _) (v := ?v21) rfl (by kernel_rfl) (fun _ _ _ h => h) (by assumption) (Or.inl ⟨by kernel_rfl, ?y21⟩) ?r21
  case y21 => (intro w hSw; (try dsimp only at hSw); go_simp; all_goals with_reducible rfl)
  try simp only [sl1, sl2, sl3, Act.put, sl4, sl5, sl6]
  refine wpAnyL_take (i := 1) (oi := _) (v := ?v22) rfl (by kernel_rfl) (fun _ _ _ h => h) (by assumption) (Or.inl ⟨by kernel_rfl, ?y22⟩) ?r22
  case y22 => (intro w hSw; (try dsimp only at hSw); go_simp; all_goals with_reducible rfl)
  try simp only [sl1, sl2, sl3, Act.put, sl4, sl5, sl6]
  refine wpAnyL_take (i := 2) (oi := _) (v := ?v23) rfl (by kernel_rfl) (fun _ _ _ h => h) (by assumption) (Or.inl ⟨by kernel_rfl, ?y23⟩) ?r23
  case y23 => (intro w hSw; (try dsimp only at hSw); go_simp; all_goals with_reducible rfl)
  try simp only [sl1, sl2, sl3, Act.put, sl4, sl5, sl6]
  refine wpAnyL_take (i := 3) (oi := _) (v := ?v24) rfl (by kernel_rfl) (fun _ _ _ h => h) (by assumption) (Or.inl ⟨by kernel_rfl, ?y24⟩) ?r24
  case y24 => (intro w hSw; (try dsimp only at hSw); go_simp; all_goals with_reducible rfl)
  try simp only [sl1, sl2, sl3, Act.put, sl4, sl5, sl6]
  refine wpAnyL_take (i := 4) (oi := _) (v := ?v25) rfl (by kernel_rfl) (fun _ _ _ h => h) (by assumption) (Or.inl ⟨by kernel_rfl, ?y25⟩) ?r25
  case y25 => (intro w hSw; (try dsimp only at hSw); go_simp; all_goals with_reducible rfl)
  try simp only [sl1, sl2, sl3, Act.put, sl4, sl5, sl6]
  refine wpAnyL_take (i := 5) (oi := _) (v := ?v26) rfl (by kernel_rfl) (fun _ _ _ h => h) (by assumption) (Or.inl ⟨by kernel_rfl, ?y26⟩) ?r26
  case y26 => (intro w hSw; (try dsimp only at hSw); go_simp; all_goals with_reducible rfl)
  try simp only [sl1, sl2, sl3, Act.put, sl4, sl5, sl6]
  refine wpAnyL_take (i := 6) (oi := _) (v := ?v27) rfl (by kernel_rfl) (fun _ _ _ h => h) (by assumption) (Or.inl ⟨by kernel_rfl, ?y27⟩) ?r27
  case y27 => (intro w hSw; (try dsimp only at hSw); go_simp; all_goals with_reducible rfl)
  try simp only [sl1, sl2, sl3, Act.put, sl4, sl5, sl6]
  refine wpAnyL_take (i := 7) (oi := _) (v := ?v28) rfl (by kernel_rfl) (fun _ _ _ h => h) (by assumption) (Or.inl ⟨by kernel_rfl, ?y28⟩) ?r28
  case y28 => (intro w hSw; (try dsimp only at hSw); go_simp; all_goals with_reducible rfl)
  try simp only [sl1, sl2, sl3, Act.put, sl4, sl5, sl6]
  refine wpAnyL_take (i := 8) (oi := _) (v := ?v29) rfl (by kernel_rfl) (fun _ _ _ h => h) (by assumption) (Or.inl ⟨by kernel_rfl, ?y29⟩) ?r29
  case y29 => (intro w hSw; (try dsimp only at hSw); go_simp; all_goals with_reducible rfl)
  try simp only [sl1, sl2, sl3, Act.put, sl4, sl5, sl6]
  refine wpAnyL_take (i := 9) (oi := _) (v := ?v30) rfl (by kernel_rfl) (fun _ _ _ h => h) (by assumption) (Or.inl ⟨by kernel_rfl, ?y30⟩) ?r30
  case y30 => (intro w hSw; (try dsimp only at hSw); go_simp; all_goals with_reducible rfl)
  try simp only [sl1, sl2, sl3, Act.put, sl4, sl5, sl6]
  refine wpAnyL_take (i := 10) (oi := _) (v := ?v31) rfl (by kernel_rfl) (fun _ _ _ h => h) (by assumption) (Or.inl ⟨by kernel_rfl, ?y31⟩) ?r31
  case y31 => (intro w hSw; (try dsimp only at hSw); go_simp; all_goals with_reducible rfl)
  try simp only [sl1, sl2, sl3, Act.put, sl4, sl5, sl6]
  refine wpAnyL_take (i := 11) (oi := _) (v := ?v32) rfl (by kernel_rfl) (fun _ _ _ h => h) (by assumption) (Or.inl ⟨by kernel_rfl, ?y32⟩) ?r32
  case y32 => (intro w hSw; (try dsimp only at hSw); go_simp; all_goals with_reducible rfl)
  try simp only [sl1, sl2, sl3, Act.put, sl4, sl5, sl6]
  refine wpAnyL_take (i := 12) (oi := _) (v := ?v33) rfl (by kernel_rfl) (fun _ _ _ h => h) (by assumption) (Or.inl ⟨by kernel_rfl, ?y33⟩) ?r33
  case y33 => (intro w hSw; (try dsimp only at hSw); go_simp; all_goals with_reducible rfl)
  try simp only [sl1, sl2, sl3, Act.put, sl4, sl5, sl6]
  refine wpAnyL_take (i := 13) (oi := _) (v := ?v34) rfl (by kernel_rfl) (fun _ _ _ h => h) (by assumption) (Or.inl ⟨by kernel_rfl, ?y34⟩) ?r34
  case y34 => (intro w hSw; (try dsimp only at hSw); go_simp; all_goals with_reducible rfl)
  try simp only [sl1, sl2, sl3, Act.put, sl4, sl5, sl6]
  refine wpAnyL_take (i := 14) (oi := _) (v := ?v35) rfl (by kernel_rfl) (fun _ _ _ h => h) (by assumption) (Or.inl ⟨by kernel_rfl, ?y35⟩) ?r35
  case y35 => (intro w hSw; (try dsimp only at hSw); go_simp; all_goals with_reducible rfl)
  try simp only [sl1, sl2, sl3, Act.put, sl4, sl5, sl6]
  refine wpAnyL_step (j := 15) (o := _) (by kernel_rfl) rfl (fun K hK => ?_)
  (go_simp; go_at_call 140; refine C.out.mono ?_; rintro e3 w3 ⟨ev, s1, rfl, hev, he3, hk3⟩; have HV3 := Lib.hid (And.intro hev he3); have HK3 : Hid (KpE Ke Db Tb w1 w3) := Lib.hid ((Kept.refl _ w1).drew.trans hk3); have HS3 : Hid (OfS Ke Db rb ro i p.fs.length (some ⟨rb, ro, none⟩) p.fd.c f.bd f.body.length w3) := Lib.hid (HSk.out _ _ HK3.out he3); obtain ⟨dd, hdd⟩ : ∃ dd, s1.does[i]? = some dd := ⟨_, List.getElem?_eq_getElem (by rw [he3.dl, ← HL.out.1.dl]; exact HF.out.2.2)⟩; have cD : w3.cell? ⟨Db, i, none⟩ = some (.int .u8 (dd : Int)) := (cell_at he3.d i).trans (lookV hdd); have fD := frz_at he3.d i; clear hev he3 hk3 hdd)
  refine hK _ _ ?_ (fun hHeld => ?_)
  ·((try dsimp only); (exact HS3.out))
  clear hK K
  try simp only [sl1, sl2, sl3, Act.put, sl4, sl5, sl6]
  refine wpAnyL_take (i := 16) (oi := _) (v := ?v37) rfl (by kernel_rfl) (fun _ _ _ h => h) (by assumption) (Or.inl ⟨by kernel_rfl, ?y37⟩) ?r37
  case y37 => (intro w hSw; (try dsimp only at hSw); go_simp; all_goals with_reducible rfl)
  try simp only [sl1, sl2, sl3, Act.put, sl4, sl5, sl6]
  refine wpAnyL_last (j := 17) (o := _) (by kernel_rfl) rfl (by rfl) (by kernel_rfl) (fun K hK => ?_)
  go_simp
  (refine hK _ _ ?_; clear hK K)
  try simp only [sl1, sl2, sl3, Act.put, sl4, sl5, sl6]
  have hO : EvO p s i ev ⟨s1.does.set i ev, s1.st.set i 2, s1.ring⟩ := .fresh HF.out.2.1 HF.out.1 HV3.out.1
  have hinv := (hO.le HInv.out).inv
  have hg := (hO.good HGd.out).1
  have h4 := HV3.out.2.know hg hinv
  have HO := Lib.hid hO
  have HE4 := Lib.hid h4.1
  have HK4 : Hid (KpE Ke Db Tb w _) := Lib.hid ((HL.out.2.trans HK3.out).trans h4.2)
  have a6 : (w3.setCell ⟨Db, i, none⟩ (.int .u8 (ev : Int))).cell? ⟨Ke, 6, none⟩ = some (.slice (some ⟨Tb, 0, none⟩) p.fs.length p.fs.length) := by
   refine (World.cell?_of_block (w := w3) (Below.heap_setCell _ _ _ _ (fun e => HV3.out.2.ne.1 (by first | exact e | exact e.symm)))).trans ?_
   exact cell_at HV3.out.2.k 6
  have hT3 : (w3.setCell ⟨Db, i, none⟩ (.int .u8 (ev : Int))).heap[Tb]? = some (.cells (statV s1.st) 3 (0, 0)) := (Below.heap_setCell _ _ _ _ (fun e => HV3.out.2.ne.2.2 (by first | exact e | exact e.symm))).trans HV3.out.2.t
  have aT := frz_at hT3 i
  obtain ⟨tt, htt⟩ : ∃ tt, s1.st[i]? = some tt := ⟨_, List.getElem?_eq_getElem (by rw [HV3.out.2.tl]; omega)⟩
  have aC : (w3.setCell ⟨Db, i, none⟩ (.int .u8 (ev : Int))).cell? ⟨Tb, i, none⟩ = some (.int .i64 (tt : Int)) := (cell_at hT3 i).trans (lookV htt)
  have b5 := cell_at h4.1.k 5
  have bD : ((w3.setCell ⟨Db, i, none⟩ (.int .u8 (ev : Int))).setCell ⟨Tb, i, none⟩ (.int .i64 2)).cell? ⟨Db, i, none⟩ = some (.int .u8 (ev : Int)) := (cell_at h4.1.d i).trans (lookV (by
   dsimp only
   exact List.getElem?_set_self (by rw [HV3.out.2.dl, ← HL.out.1.dl]; exact HF.out.2.2)))
  simp only [sl7, sl8, sl9] at b5
  clear hHeld HS HS3 HSk C cD fD hinv hg h4 hT3 htt hO k6 k5 t0 ft HV3 HL HF HK3
  go_wp2_with fail
  go_ret
  exact ⟨ev, _, rfl, HO.out, HE4.out, HK4.out⟩
theorem ofs_any (B Kb Rb Fb Sb Ke Db Tb : Nat) (p : Pr) (KN : KnP p) : ∀ z, OfE B Kb Rb Fb Sb Ke Db Tb p z := by
 intro z
 induction z using Nat.strongRecOn with
 | ind z ih => exact of_of B Kb Rb Fb Sb Ke Db Tb p KN z fun z' hz' l => list_of B Kb Rb Fb Sb Ke Db Tb p z' (own_of B Kb Rb Fb Sb Ke Db Tb p z' fun x => expr_of B Kb Rb Fb Sb Ke Db Tb p z' (ih z' hz') _ x (Nat.le_refl _)) _ l (Nat.le_refl _)
theorem owns_any (B Kb Rb Fb Sb Ke Db Tb : Nat) (p : Pr) (KN : KnP p) (z : Nat) : OwE B Kb Rb Fb Sb Ke Db Tb p z := own_of B Kb Rb Fb Sb Ke Db Tb p z fun x => expr_of B Kb Rb Fb Sb Ke Db Tb p z (ofs_any B Kb Rb Fb Sb Ke Db Tb p KN z) _ x (Nat.le_refl _)
end Go.Proofs.YtkklogikakcanaaGreatDoor
