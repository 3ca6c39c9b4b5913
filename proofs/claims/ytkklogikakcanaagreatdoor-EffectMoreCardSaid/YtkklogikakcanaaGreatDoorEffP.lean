import Derived.Test.YtkklogikakcanaaGreatDoorEffI
import Derived.Test.YtkklogikakcanaaGreatDoorEffG
set_option linter.unusedVariables false
set_option linter.unusedSimpArgs false
open List renaming getElem_toArray → sl1, getElem_cons_zero → sl2, getElem_cons_succ → sl3, setIfInBounds_toArray → sl4, set_cons_zero → sl5, set_cons_succ → sl6, getElem?_toArray → sl7, getElem?_cons_zero → sl8, getElem?_cons_succ → sl9
namespace Go.Proofs.YtkklogikakcanaaGreatDoor
open Go Go.Maps Go.RowKit
set_option maxHeartbeats 4000000 in
set_option maxRecDepth 100000 in
theorem efCheck_bad (B : Nat) (p : Pr) (w : World) (G : GlB B w) (N : NumG B w) (hI : PrIn w B p) (hT : (typesCheck p).2 ≠ 0) :
  Calls Tryz.prog 25 #[p.val] w fun e w' => e = .returned (.tuple #[.int .i64 0, .int .i64 1]) ∧ Below w.heap.size w w' := by
 obtain ⟨X, hX⟩ : ∃ X, w.heap.size = X := ⟨_, rfl⟩
 obtain ⟨w1, hw1⟩ : ∃ w1, w.alloc (prObj p) = w1 := ⟨_, rfl⟩
 have hb1 : Below w.heap.size w w1 := by rw [← hw1]; exact (Below.refl _ _).alloc (Nat.le_refl _) _
 have x1 : w1.heap[X]? = some (prObj p) := by rw [← hw1, ← hX]; exact heap_alloc_new w _
 have C := Lib.hid (look_bad B p w1 (G.below (hb1.mono G.le)) (N.keep (hb1.mono G.le)) (hI.keep (hb1.mono G.le) (Nat.le_refl B)) hT)
 have HB1 := Lib.hid hb1
 have HN := Lib.hid (And.intro hX hw1)
 obtain ⟨q0, q1, q2, q3⟩ := PrS.of x1
 rw [← hw1, ← hX] at q0 q1 q2 q3
 clear hX hw1 hb1 x1 G N hI hT
 go_enter Tryz.func25, Tryz.ntmps25
 go_wp2_with fail
 simp only [HN.out.1, HN.out.2]
 refine C.out.mono ?_
 rintro e w2 ⟨rfl, hb2⟩
 have HB2 := Lib.hid (HB1.out.trans (hb2.mono HB1.out.size))
 clear hb2 q0 q1 q2 q3 C
 go_wp2_with fail
 refine bodyPost_ret (v := .tuple #[.int .i64 0, .int .i64 1]) (by simp [results, Tryz.results25, go_sem]) rfl ?_
 exact ⟨rfl, HB2.out⟩
abbrev onePr (Q : Nat) (bd : Hd) (body : List St) : Pr := ⟨⟨none, 0⟩, [], ⟨none, 0⟩, [], ⟨none, 0⟩, [], ⟨some ⟨Q, 0, none⟩, 1⟩, [⟨bd, body⟩]⟩
theorem onePr_in {Q B : Nat} {bd : Hd} {body : List St} {w : World} (hq : w.heap[Q]? = some (.cells #[.slice bd.a body.length bd.c] 51 (0, 0))) (hs : StsIn w B bd body) (hQ : Q < B) : PrIn w B (onePr Q bd body) := by
 have h0 : lenOk 0 := by unfold lenOk; omega
 refine ⟨h0, fun h => absurd rfl h, fun r hr => (by simp at hr), ⟨h0, fun h => absurd rfl h, fun r hr => (by simp at hr)⟩, h0, fun h => absurd rfl h, fun r hr => (by simp at hr), (by unfold lenOk; simp), fun _ => ⟨Q, 0, rfl, hQ, fun i y hy => ?_⟩, fun t ht => ?_⟩
 ·cases i with
  | zero =>
   simp only [sl8, Option.some.injEq] at hy
   subst hy
   exact ⟨by have := cell_at hq 0; simpa using this⟩
  | succ i => simp at hy
 ·simp only [List.mem_singleton] at ht
  subst ht
  exact hs
theorem onePr_places (Q : Nat) (bd : Hd) (body : List St) : placesOf (onePr Q bd body) = 1 + plSts body := by
 unfold placesOf
 simp
def efEnd2 (r : Wrg) : Int × Int := match r with
 | .found q => (q, 11)
 | .on _ => (0, 0)
def efEnd3 (p : Pr) (d : List Nat) (r : Wrg) : Int × Int := match r with
 | .found q => (q, 11)
 | .on a => efEnd2 (wrTh p d p.ts a)
theorem efRest_eq (p : Pr) (d : List Nat) : efRest p d = efEnd3 p d (wrFu p d p.fs 0 ((p.rs.length + p.ss.length : Nat) - 1 : Int)) := by
 unfold efRest efEnd3
 cases wrFu p d p.fs 0 ((p.rs.length + p.ss.length : Nat) - 1 : Int) with
 | found q => rfl
 | on a => dsimp only; unfold efEnd2; cases wrTh p d p.ts a <;> rfl
theorem WrEnds.val {Pb : Nat} {r : Wrg} {w w' : World} {e : Ending} (h : WrEnds Pb r w e w') : ∃ v b : Int, e = .returned (.int .i64 v) ∧ PlAt Pb b w' ∧ Kq Pb w w' ∧ (r = .found v ∨ (v = -1 ∧ r = .on b)) := by
 cases r with
 | found q =>
  obtain ⟨rfl, ⟨b, hb⟩, hk⟩ := h
  exact ⟨q, b, rfl, hb, hk, Or.inl rfl⟩
 | on b =>
  obtain ⟨rfl, hb, hk⟩ := h
  exact ⟨-1, b, rfl, hb, hk, Or.inr ⟨rfl, rfl⟩⟩
def fuP (l : List Fu) : Nat := l.length + fuS l
theorem fuP_cons (f : Fu) (r : List Fu) : fuP (f :: r) = (1 + plSts f.body) + fuP r := by
 unfold fuP fuS
 simp only [List.length_cons, List.map_cons, List.sum_cons]
 omega
set_option maxHeartbeats 40000000 in
set_option maxRecDepth 100000 in
theorem efCheck_ok (B : Nat) (p : Pr) (w : World) (G : GlB B w) (N : NumG B w) (hI : PrIn w B p) (hT : (typesCheck p).2 = 0) :
  Calls Tryz.prog 25 #[p.val] w fun e w' => ∃ F : Int × Int, e = .returned (.tuple #[.int .i64 F.1, .int .i64 F.2]) ∧ EfC p F ∧ Below w.heap.size w w' := by
 have KN := knP_of hT
 have hpl : placesOf p ≤ 1000000 := by
  obtain ⟨-, ⟨a, ha⟩, -⟩ := types_ok hT
  exact (places_good ha).1
 have HCl : Hid (∀ n, (callsOf p n).length ≤ 1024) := Lib.hid (by
  obtain ⟨-, ⟨a, ha⟩, -⟩ := types_ok hT
  exact callsOf_len ha)
 have hP : p.rs.length + p.ss.length + fuP p.fs + (p.ts.length + thS p.ts) ≤ 1000000 := by
  have : placesOf p = p.rs.length + p.ss.length + p.fs.length + p.ts.length + (fuS p.fs + thS p.ts) := rfl
  unfold fuP
  omega
 obtain ⟨X, hX⟩ : ∃ X, w.heap.size = X := ⟨_, rfl⟩
 obtain ⟨w0, hw0⟩ : ∃ w0, w.alloc (prObj p) = w0 := ⟨_, rfl⟩
 have hb0 : Below w.heap.size w w0 := by rw [← hw0]; exact (Below.refl _ _).alloc (Nat.le_refl _) _
 have x0 : w0.heap[X]? = some (prObj p) := by rw [← hw0, ← hX]; exact heap_alloc_new w _
 have CL := Lib.hid (look_ok B p w0 (G.below (hb0.mono G.le)) (N.keep (hb0.mono G.le)) (hI.keep (hb0.mono G.le) (Nat.le_refl B)) hT)
 have HB0 := Lib.hid hb0
 have HX0 := Lib.hid x0
 have HN := Lib.hid (And.intro hX hw0)
 have HGl := Lib.hid G.le
 have HI0 := Lib.hid hI
 have HKN := Lib.hid KN
 have HT := Lib.hid hT
 have HP := Lib.hid hP
 obtain ⟨q0, q1, q2, q3⟩ := PrS.of x0
 rw [← hw0, ← hX] at q0 q1 q2 q3
 clear hX hw0 hb0 x0 G N hI KN hT hpl
 go_enter Tryz.func25, Tryz.ntmps25
 go_wp2_with fail
 simp only [HN.out.1, HN.out.2]
 refine CL.out.mono ?_
 rintro e w1 ⟨Kb, Rb, Fb, Sb, Ke, Db, Tb, s, rfl, hev, hef, hlo, hb1⟩
 have HW1 : Hid (Below w.heap.size w w1) := Lib.hid (HB0.out.trans (hb1.mono HB0.out.size))
 have HEv := Lib.hid hev
 have HEf : Hid (∀ W, Below w1.heap.size w1 W → EfIs B Kb Rb Fb Sb Ke Db Tb p s W) := Lib.hid fun W hb => hef.below hb
 have HX : Hid (∀ W, Below w1.heap.size w1 W → W.heap[X]? = some (prObj p)) := Lib.hid fun W hb => by
  have h := (hb1.block X (blk_lt HX0.out)).trans HX0.out
  exact (hb.block X (blk_lt h)).trans h
 have HI : Hid (∀ W, Below w1.heap.size w1 W → PrIn W B p) := Lib.hid fun W hb => HI0.out.keep ((HW1.out.trans (hb.mono HW1.out.size)).mono HGl.out) (Nat.le_refl B)
 have HEnd := Lib.hid (evL_new hev)
 have HBr : Hid (Below w1.heap.size w1 w1) := Lib.hid (Below.refl _ _)
 have HBB : Hid (B ≤ w1.heap.size) := Lib.hid (Nat.le_trans HGl.out HW1.out.size)
 have k7 := cell_at hef.k 7
 simp only [sl7, sl8, sl9] at k7
 have HRg : Hid (s.ring = s.ring) := Lib.hid rfl
 clear q0 q1 q2 q3 hev hef hlo hb1 CL HB0 HX0
 have row := HX.out _ HBr.out
 have q0 := cell_at row 0
 have q1 := cell_at row 1
 have q2 := cell_at row 2
 have q3 := cell_at row 3
 simp only [sl7, sl8, sl9] at q0 q1 q2 q3
 clear row
 have hRl : p.rs.length ≤ 1000000 := by omega
 have hSl : p.ss.length ≤ 1000000 := by omega
 have hFl : p.fs.length ≤ 1000000 := by unfold fuP at hP; omega
 have hTl : p.ts.length ≤ 1000000 := by omega
 obtain ⟨hd, hhd⟩ : ∃ hd : Int, hd = (p.rs.length : Int) + (p.ss.length : Int) := ⟨_, rfl⟩
 have HHd := Lib.hid hhd
 have hh0 : 0 ≤ hd ∧ hd ≤ 1000000 := by omega
 clear hP
 go_upto_if 34 with fail
 go_cut [6] from 7 (fun s6 wx => Hid (s.ring = false ∨ (s.ring = true ∧ RgL p 0 p.fs ((p.rs.length + p.ss.length : Nat) : Int) none)) ∧ Hid (Below w1.heap.size w1 wx))
 case first =>
  obtain ⟨rg, hrg⟩ : ∃ rg, s.ring = rg := ⟨_, rfl⟩
  have HRg := Lib.hid hrg
  rw [hrg] at k7 ⊢
  cases rg with
  | false =>
   go_wp2_with fail
   go_meet
   exact ⟨Lib.hid (Or.inl HRg.out), HBr⟩
  | true =>
   have HG0 : Hid (∀ o, RgL p 0 (p.fs.drop 0) hd o → RgL p 0 p.fs hd o) := Lib.hid fun o h => by rw [List.drop_zero] at h; exact h
   have HA0 : Hid (0 ≤ hd ∧ hd + (fuP (p.fs.drop 0) : Nat) ≤ 1000000) := Lib.hid (by rw [List.drop_zero]; have := HP.out; have := HHd.out; exact ⟨hh0.1, by push_cast at *; omega⟩)
   clear hrg
   go_wp2_with fail
   clear q0 q1 q2 q3 k7
   go_loopw [6, 39] (fun aa ii wr => ∃ (j : Nat) (a : Int), aa = .int .i64 a ∧ ii = .int .i64 j ∧ j ≤ p.fs.length ∧ Hid (0 ≤ a ∧ a + (fuP (p.fs.drop j) : Nat) ≤ 1000000) ∧ Hid (∀ o, RgL p j (p.fs.drop j) a o → RgL p 0 p.fs hd o) ∧ Hid (Below w1.heap.size w1 wr)) (fun _ ii _ => p.fs.length - (intOf ii).toNat)
   case atStart => exact ⟨0, hd, by rw [HHd.out], rfl, Nat.zero_le _, HA0, HG0, HBr⟩
   case round =>
    obtain ⟨j, a, rfl, rfl, hj, hA, hG, hB⟩ := hrel
    clear HG0 HA0 HBr
    have p2 : (0 : Int) ≤ (j : Int) := Int.natCast_nonneg _
    by_cases hlt : j < p.fs.length
    ·
     obtain ⟨f, hf⟩ : ∃ f, p.fs[j]? = some f := ⟨_, List.getElem?_eq_getElem hlt⟩
     have hdrop : p.fs.drop j = f :: p.fs.drop (j + 1) := by
      have := List.drop_eq_getElem_cons hlt
      rw [List.getElem?_eq_getElem hlt] at hf
      injection hf with hf
      rw [this, hf]
     have hmem := List.mem_of_getElem? hf
     have hIr := HI.out _ hB.out
     obtain ⟨rb, ro, hda, hrb, hrow⟩ := hIr.frow (by intro h0; rw [h0] at hlt; simp at hlt)
     obtain ⟨z0, z1, z2, z3, z4, z5⟩ := hrow j f hf
     have HFu : Hid (f ∈ p.fs ∧ p.fs[j]? = some f) := Lib.hid ⟨hmem, hf⟩
     obtain ⟨Z, hZ⟩ : ∃ Z, wr.heap.size = Z := ⟨_, rfl⟩
     obtain ⟨w6, hw6⟩ : ∃ w6, wr.alloc (.cells #[.string ⟨f.nm.toArray⟩, .slice f.pd.a f.ps.length f.pd.c, .int .u8 f.t.k, .string ⟨f.t.nm.toArray⟩, .int .i64 f.t.n, .slice f.bd.a f.body.length f.bd.c] 53 (0, 0)) = w6 := ⟨_, rfl⟩
     have hb6 : Below wr.heap.size wr w6 := by rw [← hw6]; exact (Below.refl _ _).alloc (Nat.le_refl _) _
     have x6 : w6.heap[Z]? = some (.cells #[.string ⟨f.nm.toArray⟩, .slice f.pd.a f.ps.length f.pd.c, .int .u8 f.t.k, .string ⟨f.t.nm.toArray⟩, .int .i64 f.t.n, .slice f.bd.a f.body.length f.bd.c] 53 (0, 0)) := by rw [← hw6, ← hZ]; exact heap_alloc_new wr _
     have HB6 : Hid (Below w1.heap.size w1 w6) := Lib.hid (hB.out.trans (hb6.mono hB.out.size))
     have p1 : (j : Int) < (p.fs.length : Int) := by omega
     have hA1 := hA.out
     have hG1 := hG.out
     rw [hdrop] at hA1 hG1
     rw [fuP_cons] at hA1
     have ha0 : 0 ≤ a := hA1.1
     have ha1 : a + (1 + (plSts f.body : Int)) ≤ 1000000 := by have := hA1.2; push_cast at this; omega
     have HA1 := Lib.hid hA1
     have HG1 := Lib.hid hG1
     have HB0 := hB
     have CB := Lib.hid (back_any B Kb Rb Fb Sb Ke Db Tb p HKN.out s w6 (HEf.out _ HB6.out) HCl.out hFl j hlt)
     have HRow : Hid (∀ W, Below w6.heap.size w6 W → W.heap[Z]? = some (.cells #[.string ⟨f.nm.toArray⟩, .slice f.pd.a f.ps.length f.pd.c, .int .u8 f.t.k, .string ⟨f.t.nm.toArray⟩, .int .i64 f.t.n, .slice f.bd.a f.body.length f.bd.c] 53 (0, 0))) := Lib.hid fun W hb => (hb.block Z (blk_lt x6)).trans x6
     have HN6 := Lib.hid (And.intro hZ hw6)
     clear hdrop hmem hIr hrb hrow hf hZ hw6 hb6 x6 hA hG hA1 hG1 hB
     rw [hda]
     have row := HX.out _ HB0.out
     have q0 := cell_at row 0
     have q1 := cell_at row 1
     have q2 := cell_at row 2
     have q3 := cell_at row 3
     simp only [sl7, sl8, sl9] at q0 q1 q2 q3
     clear row
     rw [hda] at q2
     go_wp2_with fail
     simp only [HN6.out.1, HN6.out.2]
     clear z0 z1 z2 z3 z4 z5 q0 q1 q2 q3
     refine CB.out.mono ?_
     rintro e w7 ⟨b, rfl, hbk, hb7⟩
     have HB7 : Hid (Below w1.heap.size w1 w7) := Lib.hid (HB6.out.trans (hb7.mono HB6.out.size))
     cases b with
     | true =>
      have HF : Hid (EfC p (a, 12)) := Lib.hid (.ring HT.out HEv.out HRg.out (by have h := HG1.out (some a) (.hit hbk); rw [HHd.out] at h; push_cast; exact h))
      have HFb : Hid (Below w.heap.size w w7) := Lib.hid (HW1.out.trans (HB7.out.mono HW1.out.size))
      clear hbk hb7 CB
      go_wp2_with fail
      refine bodyPost_ret (v := .tuple #[.int .i64 a, .int .i64 12]) (by simp [results, Tryz.results25, go_sem]) rfl ?_
      exact ⟨(a, 12), rfl, HF.out, HFb.out⟩
     | false =>
      have HG7 : Hid (∀ o, RgL p (j + 1) (p.fs.drop (j + 1)) (a + (1 + (plSts f.body : Nat))) o → RgL p 0 p.fs hd o) := Lib.hid fun o h => HG1.out o (.on hbk h)
      have y5 := cell_at (HRow.out _ hb7) 5
      simp only [sl7, sl8, sl9] at y5
      obtain ⟨Q, hQ⟩ : ∃ Q, w7.heap.size = Q := ⟨_, rfl⟩
      obtain ⟨w8, hw8⟩ : ∃ w8, w7.alloc (.cells #[.slice f.bd.a f.body.length f.bd.c] 51 (0, 0)) = w8 := ⟨_, rfl⟩
      have hb8 : Below w7.heap.size w7 w8 := by rw [← hw8]; exact (Below.refl _ _).alloc (Nat.le_refl _) _
      have x8 : w8.heap[Q]? = some (.cells #[.slice f.bd.a f.body.length f.bd.c] 51 (0, 0)) := by rw [← hw8, ← hQ]; exact heap_alloc_new w7 _
      have HB8 : Hid (Below w1.heap.size w1 w8) := Lib.hid (HB7.out.trans (hb8.mono HB7.out.size))
      have hss := ((HI.out _ HB8.out).fsub f HFu.out.1).body.keep (Below.refl B w8) (Nat.le_trans HBB.out HB8.out.size)
      have CPl := Lib.hid (places_any w8.heap.size (onePr Q f.bd f.body) w8 (onePr_in x8 hss (blk_lt x8)) (Nat.le_refl _) (by rw [onePr_places]; omega))
      rw [onePr_places] at CPl
      have HN8 := Lib.hid (And.intro hQ hw8)
      clear hbk hb7 CB hQ hw8 hb8 x8 hss
      go_wp2_with fail
      simp only [HN8.out.1, HN8.out.2]
      refine CPl.out.mono ?_
      rintro e w9 ⟨rfl, hb9⟩
      have HB9 : Hid (Below w1.heap.size w1 w9) := Lib.hid (HB8.out.trans (hb9.mono HB8.out.size))
      have HA9 : Hid (0 ≤ a + (1 + (plSts f.body : Nat)) ∧ a + (1 + (plSts f.body : Nat)) + (fuP (p.fs.drop (j + 1)) : Nat) ≤ 1000000) := Lib.hid (by have := HA1.out.2; push_cast at *; exact ⟨by omega, by omega⟩)
      clear hb9 CPl y5
      go_wp2_with fail
      go_roundw
      case rel => exact ⟨j + 1, _, by go_num, by go_num, by omega, HA9, HG7, HB9⟩
      case measure => simp [intOf]; omega
    ·obtain rfl : j = p.fs.length := by omega
     have HF : Hid (RgL p 0 p.fs ((p.rs.length + p.ss.length : Nat) : Int) none) := Lib.hid (by
      have h := hG.out none (by rw [List.drop_length]; exact .nil)
      rw [HHd.out] at h
      push_cast
      exact h)
     clear hA hG
     go_wp2_with fail
     go_meet
     exact ⟨Lib.hid (Or.inr ⟨HRg.out, HF.out⟩), hB⟩
 case rest =>
  obtain ⟨HRr, HBc⟩ := hcut
  have HRest : Hid (EfC p (efRest p s.does)) := Lib.hid (.rest HT.out HEv.out HRr.out)
  clear q0 q1 q2 q3 k7 HRr HRg
  obtain ⟨Pb, hPb⟩ : ∃ Pb, wc.heap.size = Pb := ⟨_, rfl⟩
  obtain ⟨a0, ha0⟩ : ∃ a0 : Int, (p.rs.length : Int) + (p.ss.length : Int) - 1 = a0 := ⟨_, rfl⟩
  obtain ⟨wP, hwP⟩ : ∃ wP, wc.alloc (.cells #[.int .i64 a0] 3 (0, 0)) = wP := ⟨_, rfl⟩
  have hbP : Below wc.heap.size wc wP := by rw [← hwP]; exact (Below.refl _ _).alloc (Nat.le_refl _) _
  have xP : PlAt Pb a0 wP := by rw [← hwP, ← hPb]; exact heap_alloc_new wc _
  have HBP : Hid (Below w1.heap.size w1 wP) := Lib.hid (HBc.out.trans (hbP.mono HBc.out.size))
  have hPw : w1.heap.size ≤ Pb := by rw [← hPb]; exact HBc.out.size
  have HKB : Hid (∀ W, Kq Pb wP W → Below w1.heap.size w1 W) := Lib.hid fun W hk => HBP.out.trans (hk.below HBP.out.size (fun k e => by rw [e]; exact hPw))
  have HNe : Hid ((Pb ≠ Kb ∧ Pb ≠ Rb ∧ Pb ≠ Fb ∧ Pb ≠ Sb) ∧ (Pb ≠ Ke ∧ Pb ≠ Db ∧ Pb ≠ Tb) ∧ B ≤ Pb) := Lib.hid (by
   have h := HEf.out _ (Below.refl _ w1)
   have l1 := blk_lt h.sc.k
   have l2 := h.sc.recs.lt
   have l3 := h.sc.funs.lt
   have l4 := h.sc.shs.lt
   have l5 := blk_lt h.k
   have l6 := blk_lt h.d
   have l7 := blk_lt h.t
   have l8 := HBB.out
   exact ⟨⟨by omega, by omega, by omega, by omega⟩, ⟨by omega, by omega, by omega⟩, by omega⟩)
  have HWr : Hid (∀ a W, Below w1.heap.size w1 W → PlAt Pb a W → WrAt B Kb Rb Fb Sb Ke Db Tb Pb p s a W) := Lib.hid fun a W hb hp => ⟨HEf.out W hb, HEnd.out.known, hp, HNe.out⟩
  obtain ⟨R2, hR2⟩ : ∃ R2, wrFu p s.does p.fs 0 a0 = R2 := ⟨_, rfl⟩
  have HR2 : Hid (efRest p s.does = efEnd3 p s.does R2) := Lib.hid (by
   rw [efRest_eq, show (((p.rs.length + p.ss.length : Nat) : Int) - 1) = a0 by rw [← ha0]; push_cast; rfl, hR2])
  have HQ0 : Hid (wrFu p s.does (p.fs.drop 0) 0 a0 = R2) := Lib.hid (by rw [List.drop_zero]; exact hR2)
  have HA0 : Hid (-1 ≤ a0 ∧ a0 + (fuP (p.fs.drop 0) : Nat) + (p.ts.length + thS p.ts : Nat) ≤ 1000000) := Lib.hid (by rw [List.drop_zero]; have := HP.out; constructor <;> (push_cast at *; omega))
  have HP0 := Lib.hid xP
  have HK0 : Hid (Kq Pb wP wP) := Lib.hid (Kept.refl _ _)
  have hr0 : PrS X p wc := PrS.of (HX.out _ HBc.out)
  have hrP : PrS X p wP := PrS.of (HX.out _ HBP.out)
  obtain ⟨-, -, q2, -⟩ := hrP
  rw [← hwP] at q2
  have HNP := Lib.hid (And.intro hPb (And.intro ha0 hwP))
  rw [← HNP.out.2.1] at q2
  clear hPb ha0 hwP hbP xP hPw hR2 hr0 HHd hh0
  go_wp2_with fail
  simp only [HNP.out.1, HNP.out.2.1, HNP.out.2.2]
  clear q2
  go_loopw [61] (fun ii wr => ∃ (j : Nat) (a : Int), ii = .int .i64 j ∧ j ≤ p.fs.length ∧ Hid (PlAt Pb a wr) ∧ Hid (-1 ≤ a ∧ a + (fuP (p.fs.drop j) : Nat) + (p.ts.length + thS p.ts : Nat) ≤ 1000000) ∧ Hid (wrFu p s.does (p.fs.drop j) j a = R2) ∧ Hid (Kq Pb wP wr)) (fun ii _ => p.fs.length - (intOf ii).toNat)
  case atStart => exact ⟨0, a0, rfl, Nat.zero_le _, HP0, HA0, HQ0, HK0⟩
  case round =>
   obtain ⟨j, a, rfl, hj, hPl, hA, hQ, hK⟩ := hrel
   clear HP0 HA0 HQ0 HK0
   have p2 : (0 : Int) ≤ (j : Int) := Int.natCast_nonneg _
   have HB0 : Hid (Below w1.heap.size w1 wr) := Lib.hid (HKB.out _ hK.out)
   by_cases hlt : j < p.fs.length
   ·
    obtain ⟨f, hf⟩ : ∃ f, p.fs[j]? = some f := ⟨_, List.getElem?_eq_getElem hlt⟩
    have hdrop : p.fs.drop j = f :: p.fs.drop (j + 1) := by
     have := List.drop_eq_getElem_cons hlt
     rw [List.getElem?_eq_getElem hlt] at hf
     injection hf with hf
     rw [this, hf]
    have hmem := List.mem_of_getElem? hf
    have hIr := HI.out _ HB0.out
    obtain ⟨rb, ro, hda, hrb, hrow⟩ := hIr.frow (by intro h0; rw [h0] at hlt; simp at hlt)
    obtain ⟨z0, z1, z2, z3, z4, z5⟩ := hrow j f hf
    have HFu : Hid (f ∈ p.fs ∧ p.fs[j]? = some f) := Lib.hid ⟨hmem, hf⟩
    obtain ⟨Z, hZ⟩ : ∃ Z, wr.heap.size = Z := ⟨_, rfl⟩
    obtain ⟨w6, hw6⟩ : ∃ w6, wr.alloc (.cells #[.string ⟨f.nm.toArray⟩, .slice f.pd.a f.ps.length f.pd.c, .int .u8 f.t.k, .string ⟨f.t.nm.toArray⟩, .int .i64 f.t.n, .slice f.bd.a f.body.length f.bd.c] 53 (0, 0)) = w6 := ⟨_, rfl⟩
    have hb6 : Below wr.heap.size wr w6 := by rw [← hw6]; exact (Below.refl _ _).alloc (Nat.le_refl _) _
    have x6 : w6.heap[Z]? = some (.cells #[.string ⟨f.nm.toArray⟩, .slice f.pd.a f.ps.length f.pd.c, .int .u8 f.t.k, .string ⟨f.t.nm.toArray⟩, .int .i64 f.t.n, .slice f.bd.a f.body.length f.bd.c] 53 (0, 0)) := by rw [← hw6, ← hZ]; exact heap_alloc_new wr _
    have HB6 : Hid (Below w1.heap.size w1 w6) := Lib.hid (HB0.out.trans (hb6.mono HB0.out.size))
    have p1 : (j : Int) < (p.fs.length : Int) := by omega
    have hA1 := hA.out
    have hQ1 := hQ.out
    rw [hdrop] at hA1 hQ1
    rw [fuP_cons] at hA1
    rw [wrFu] at hQ1
    have ha0 : -1 ≤ a := hA1.1
    have ha1 : a ≤ 999999 := by have := hA1.2; push_cast at this; omega
    have HA1 : Hid (a + 1 + (plSts f.body : Nat) + (fuP (p.fs.drop (j + 1)) : Nat) + (p.ts.length + thS p.ts : Nat) ≤ 1000000) := Lib.hid (by have := hA1.2; push_cast at *; omega)
    have HQ1 := Lib.hid hQ1
    have hP6 : PlAt Pb a w6 := (hb6.block Pb hPl.out.lt).trans hPl.out
    have hZP : Z ≠ Pb := by have := hPl.out.lt; omega
    obtain ⟨w7, hw7⟩ : ∃ w7, w6.setCell ⟨Pb, 0, none⟩ (.int .i64 (a + 1)) = w7 := ⟨_, rfl⟩
    have hk67 : Kq Pb w6 w7 := by rw [← hw7]; exact Kept.setCell (S := fun k => k = Pb) (Kept.refl _ _) (p := ⟨Pb, 0, none⟩) (Or.inl rfl) _
    have HP7 : Hid (PlAt Pb (a + 1) w7) := Lib.hid (by rw [← hw7]; exact hP6.set (a + 1))
    have HK7 : Hid (Kq Pb wP w7 ∧ Kq Pb w6 w7) := Lib.hid ⟨(hK.out.behind hb6).trans hk67, hk67⟩
    have HRow : Hid (∀ W, Kq Pb w6 W → W.heap[Z]? = some (.cells #[.string ⟨f.nm.toArray⟩, .slice f.pd.a f.ps.length f.pd.c, .int .u8 f.t.k, .string ⟨f.t.nm.toArray⟩, .int .i64 f.t.n, .slice f.bd.a f.body.length f.bd.c] 53 (0, 0))) := Lib.hid fun W hk => (hk.block Z (blk_lt x6) hZP).trans x6
    have HB7 : Hid (Below w1.heap.size w1 w7) := Lib.hid (HKB.out _ HK7.out.1)
    have c0 := cell_at hP6 0
    have f0 := frz_at hP6 0
    have y2 := cell_at (HRow.out _ hk67) 2
    have hE7 := HEf.out _ HB7.out
    have k5 := cell_at hE7.k 5
    obtain ⟨ev, hev⟩ : ∃ ev, s.does[j]? = some ev := ⟨_, List.getElem?_eq_getElem (by rw [hE7.dl]; exact hlt)⟩
    have hgd : s.does.getD j 0 = ev := by rw [List.getD_eq_getElem?_getD, hev]; rfl
    have hev8 : ev < 8 := (hE7.good ev (List.mem_of_getElem? hev)).1
    have d5 : w7.cell? ⟨Db, j, none⟩ = some (.int .u8 (ev : Int)) := (cell_at hE7.d j).trans (lookV hev)
    have c7 := cell_at HP7.out 0
    simp only [sl7, sl8, sl9] at c0 y2 k5 c7
    have HEv8 := Lib.hid hev8
    have HGd := Lib.hid hgd
    have hd4 : (bits BinOp.and IntKind.u8 (ev : Int) 4 != 0) = decide (ev &&& 4 ≠ 0) := by
     have := bits_and8 ev hev8 4 (by decide)
     rw [show ((4 : Nat) : Int) = 4 from rfl] at this
     rw [this]
     by_cases h : ev &&& 4 = 0
     ·rw [h]; rfl
     ·rw [show decide (ev &&& 4 ≠ 0) = true from decide_eq_true h]; exact bne_iff_ne.2 (fun e => h (by exact_mod_cast e))
    have HD1 : Hid ((bits BinOp.and IntKind.u8 (ev : Int) 1 != 0) = decide (ev &&& 1 ≠ 0)) := Lib.hid (by
     have := bits_and8 ev hev8 1 (by decide)
     rw [show ((1 : Nat) : Int) = 1 from rfl] at this
     rw [this]
     by_cases h : ev &&& 1 = 0
     ·rw [h]; rfl
     ·rw [show decide (ev &&& 1 ≠ 0) = true from decide_eq_true h]; exact bne_iff_ne.2 (fun e => h (by exact_mod_cast e)))
    have HSts : Hid (∀ W, Below w1.heap.size w1 W → StsIn W B f.bd f.body) := Lib.hid fun W hb => ((HI.out W hb).fsub f HFu.out.1).body
    have HKf := Lib.hid (HKN.out.fs f HFu.out.1)
    have HN7 := Lib.hid (And.intro hZ (And.intro hw6 hw7))
    rw [← hw7, ← hw6] at y2 k5 d5 c7
    rw [← hZ] at y2
    rw [← hw6] at c0 f0
    clear hdrop hmem hIr hrb hrow hf hZ hw6 hw7 hb6 x6 hA hQ hA1 hQ1 hK hPl hP6 hZP hk67 hE7 hev hgd hev8
    have row := HX.out _ HB0.out
    have q0 := cell_at row 0
    have q1 := cell_at row 1
    have q2 := cell_at row 2
    have q3 := cell_at row 3
    simp only [sl7, sl8, sl9] at q0 q1 q2 q3
    clear row
    rw [hda] at q2
    rw [hda]
    by_cases ht0 : f.t.k = 0
    ·have bt : (f.t.k != 0) = false := by rw [ht0]; rfl
     have HQ2 := Lib.hid (show (match wrSs p s.does ⟨false, false, decide (ev &&& 1 ≠ 0)⟩ f.body (a + 1) with | .found q => Wrg.found q | .on a1 => wrFu p s.does (p.fs.drop (j + 1)) (j + 1) a1) = R2 from (by
      have h := HQ1.out
      rw [if_neg (fun hh => hh.1 ht0), HGd.out] at h
      exact h))
     clear ht0 hd4 HQ1
     go_wp2_with fail
     simp only [HN7.out.1, HN7.out.2.1, HN7.out.2.2]
     clear z0 z1 z2 z3 z4 z5 q0 q1 q2 q3 c0 f0 y2 k5 d5 c7 bt
     have HS : Hid (w7.drew.cell? ⟨Z, 5, none⟩ = some (.slice f.bd.a f.body.length f.bd.c) ∧ w7.drew.cell? ⟨Ke, 5, none⟩ = some (.slice (some ⟨Db, 0, none⟩) p.fs.length p.fs.length) ∧ w7.drew.cell? ⟨Db, j, none⟩ = some (.int .u8 (ev : Int))) :=
      Lib.hid ⟨cell_at (HRow.out _ HK7.out.2) 5, cell_at (HEf.out _ HB7.out).k 5, (cell_at (HEf.out _ HB7.out).d j).trans (lookV (by
       have hl : j < s.does.length := by rw [(HEf.out _ HB7.out).dl]; exact hlt
       have := HGd.out
       rw [List.getD_eq_getElem?_getD, List.getElem?_eq_getElem hl] at this
       rw [List.getElem?_eq_getElem hl]
       exact congrArg some this))⟩
     have CW := Lib.hid (wrong_any B Kb Rb Fb Sb Ke Db Tb Pb p HKN.out s _ f.body (Nat.le_refl _) f.bd false false (bits BinOp.and IntKind.u8 (ev : Int) 1 != 0) (a + 1) w7.drew ((HWr.out (a + 1) w7 HB7.out HP7.out).below (Below.refl _ _).drew) ((HSts.out _ HB7.out).keep (Below.refl _ _).drew (Nat.le_refl B)) HKf.out (by omega) (by have := HA1.out; push_cast at this; omega))
     have HRng := Lib.hid (wrSs_range (p := p) (d := s.does) f.body ⟨false, false, decide (ev &&& 1 ≠ 0)⟩ (a + 1))
     rw [HD1.out] at CW
     have HCell : Hid (∀ W, Kq Pb w7 W → W.cell? ⟨Z, 5, none⟩ = some (.slice f.bd.a f.body.length f.bd.c) ∧ W.cell? ⟨Ke, 5, none⟩ = some (.slice (some ⟨Db, 0, none⟩) p.fs.length p.fs.length) ∧ W.cell? ⟨Db, j, none⟩ = some (.int .u8 (ev : Int))) :=
      Lib.hid fun W hk => ⟨cell_at (HRow.out _ (HK7.out.2.trans hk)) 5, cell_at (HEf.out _ (HKB.out _ (HK7.out.1.trans hk))).k 5, (hk.cell (p := ⟨Db, j, none⟩) (World.block_lt_of_cell? _ _ HS.out.2.2) (fun e => HNe.out.2.1.2.1 e.symm)).trans HS.out.2.2⟩
     refine wp_region_L (l := 14) (S := (fun W => W.cell? ⟨Z, 5, none⟩ = some (.slice f.bd.a f.body.length f.bd.c) ∧ W.cell? ⟨Ke, 5, none⟩ = some (.slice (some ⟨Db, 0, none⟩) p.fs.length p.fs.length) ∧ W.cell? ⟨Db, j, none⟩ = some (.int .u8 (ev : Int)))) (by kernel_rfl) ?_ (fun hHeld => ?_)
     ·((try dsimp only); (exact HS.out))
     refine wpAnyL_take (i := 0) (oi := _) (v := ?v1) rfl (by kernel_rfl) (fun _ _ _ h => h) (by assumption) (Or.inl ⟨by kernel_rfl, ?y1⟩) ?r1
     case y1 => (intro w hSw; (try dsimp only at hSw); go_simp; all_goals with_reducible rfl)
     try simp only [sl1, sl2, sl3, Act.put, sl4, sl5, sl6]
     refine wpAnyL_take (i := 1) (oi := _) (v := ?v2) rfl (by kernel_rfl) (fun _ _ _ h => h) (by assumption) (Or.inl ⟨by kernel_rfl, ?y2⟩) ?r2
     case y2 => (intro w hSw; (try dsimp only at hSw); go_simp; all_goals with_reducible rfl)
     try simp only [sl1, sl2, sl3, Act.put, sl4, sl5, sl6]
     refine wpAnyL_take (i := 2) (oi := _) (v := ?v3) rfl (by kernel_rfl) (fun _ _ _ h => h) (by assumption) (Or.inl ⟨by kernel_rfl, ?y3⟩) ?r3
     case y3 => (intro w hSw; (try dsimp only at hSw); go_simp; all_goals with_reducible rfl)
     try simp only [sl1, sl2, sl3, Act.put, sl4, sl5, sl6]
     refine wpAnyL_take (i := 3) (oi := _) (v := ?v4) rfl (by kernel_rfl) (fun _ _ _ h => h) (by assumption) (Or.inl ⟨by kernel_rfl, ?y4⟩) ?r4
     case y4 => (intro w hSw; (try dsimp only at hSw); go_simp; all_goals with_reducible rfl)
     try simp only [sl1, sl2, sl3, Act.put, sl4, sl5, sl6]
     refine wpAnyL_take (i := 4) (oi := _) (v := ?v5) rfl (by kernel_rfl) (fun _ _ _ h => h) (by assumption) (Or.inl ⟨by kernel_rfl, ?y5⟩) ?r5
     case y5 => (intro w hSw; (try dsimp only at hSw); go_simp; all_goals with_reducible rfl)
     try simp only [sl1, sl2, sl3, Act.put, sl4, sl5, sl6]
     refine wpAnyL_take (i := 5) (oi := _) (v := ?v6) rfl (by kernel_rfl) (fun _ _ _ h => h) (by assumption) (Or.inl ⟨by kernel_rfl, ?y6⟩) ?r6
     case y6 => (intro w hSw; (try dsimp only at hSw); go_simp; all_goals with_reducible rfl)
     try simp only [sl1, sl2, sl3, Act.put, sl4, sl5, sl6]
     refine wpAnyL_take (i := 6) (oi := _) (v := ?v7) rfl (by kernel_rfl) (fun _ _ _ h => h) (by assumption) (Or.inl ⟨by kernel_rfl, ?y7⟩) ?r7
     case y7 => (intro w hSw; (try dsimp only at hSw); go_simp; all_goals with_reducible rfl)
     try simp only [sl1, sl2, sl3, Act.put, sl4, sl5, sl6]
     refine wpAnyL_take (i := 7) (oi := _) (v := ?v8) rfl (by kernel_rfl) (fun _ _ _ h => h) (by assumption) (Or.inl ⟨by kernel_rfl, ?y8⟩) ?r8
     case y8 => (intro w hSw; (try dsimp only at hSw); go_simp; all_goals with_reducible rfl)
     try simp only [sl1, sl2, sl3, Act.put, sl4, sl5, sl6]
     refine wpAnyL_take (i := 8) (oi := _) (v := ?v9) rfl (by kernel_rfl) (fun _ _ _ h => h) (by assumption) (Or.inl ⟨by kernel_rfl, ?y9⟩) ?r9
     case y9 => (intro w hSw; (try dsimp only at hSw); go_simp; all_goals with_reducible rfl)
     try simp only [sl1, sl2, sl3, Act.put, sl4, sl5, sl6]
     refine wpAnyL_take (i := 9) (oi := _) (v := ?v10) rfl (by kernel_rfl) (fun _ _ _ h => h) (by assumption) (Or.inl ⟨by kernel_rfl, ?y10⟩) ?r10
     case y10 => (intro w hSw; (try dsimp only at hSw); go_simp; all_goals with_reducible rfl)
     try simp only [sl1, sl2, sl3, Act.put, sl4, sl5, sl6]
     refine wpAnyL_take (i := 10) (oi := _) (v := ?v11) rfl (by kernel_rfl) (fun _ _ _ h => h) (by assumption) (Or.inl ⟨by kernel_rfl, ?y11⟩) ?r11
     case y11 => (intro w hSw; (try dsimp only at hSw); go_simp; all_goals with_reducible rfl)
     try simp only [sl1, sl2, sl3, Act.put, sl4, sl5, sl6]
     refine wpAnyL_take (i := 11) (oi := _) (v := ?v12) rfl (by kernel_rfl) (fun _ _ _ h => h) (by assumption) (Or.inl ⟨by kernel_rfl, ?y12⟩) ?r12
     case y12 => (intro w hSw; (try dsimp only at hSw); go_simp; all_goals with_reducible rfl)
     try simp only [sl1, sl2, sl3, Act.put, sl4, sl5, sl6]
     refine wpAnyL_take (i := 12) (oi := _) (v := ?v13) rfl (by kernel_rfl) (fun _ _ _ h => h) (by assumption) (Or.inl ⟨by kernel_rfl, ?y13⟩) ?r13
     case y13 => (intro w hSw; (try dsimp only at hSw); go_simp; all_goals with_reducible rfl)
     try simp only [sl1, sl2, sl3, Act.put, sl4, sl5, sl6]
     refine wpAnyL_step (j := 13) (o := _) (by kernel_rfl) rfl (fun K hK => ?_)
     (go_simp; go_at_call 61; rw [HD1.out]; refine CW.out.mono ?_; rintro e8 w8 hw8; obtain ⟨v8, b8, rfl, hp8, hk8, hr8⟩ := hw8.val; have HV8 := Lib.hid hr8; have HP8 := Lib.hid hp8; have HK8 : Hid (Kq Pb w7 w8) := Lib.hid ((Kept.refl _ w7).drew.trans hk8); have HS8 := Lib.hid (HCell.out _ HK8.out); clear hw8 hp8 hk8 hr8)
     refine hK _ _ ?_ (fun hHeld => ?_)
     ·((try dsimp only); (exact HS8.out))
     clear hK K
     try simp only [sl1, sl2, sl3, Act.put, sl4, sl5, sl6]
     refine wpAnyL_last (j := 14) (o := _) (by kernel_rfl) rfl (by rfl) (by kernel_rfl) (fun K hK => ?_)
     go_simp
     (refine hK _ _ ?_; clear hK K)
     try simp only [sl1, sl2, sl3, Act.put, sl4, sl5, sl6]
     have HB8 : Hid (Below w1.heap.size w1 w8) := Lib.hid (HKB.out _ (HK7.out.1.trans HK8.out))
     clear hHeld HS HS8 CW HCell
     rcases HV8.out with hr | ⟨rfl, hr⟩
     ·have hv := (HRng.out.1 v8 hr).1
      have d1 : decide (0 ≤ v8) = true := by simp; omega
      have HF : Hid (EfC p (v8, 11)) := Lib.hid (by
       have h := HQ2.out
       rw [hr] at h
       have h2 := HR2.out
       rw [← h] at h2
       have h3 := HRest.out
       rw [h2] at h3
       exact h3)
      have HFb : Hid (Below w.heap.size w w8) := Lib.hid (HW1.out.trans (HB8.out.mono HW1.out.size))
      clear hr HQ2
      go_wp2_with fail
      refine bodyPost_ret (v := .tuple #[.int .i64 v8, .int .i64 11]) (by simp [results, Tryz.results25, go_sem]) rfl ?_
      exact ⟨(v8, 11), rfl, HF.out, HFb.out⟩
     ·have HQ3 : Hid (wrFu p s.does (p.fs.drop (j + 1)) (j + 1) b8 = R2) := Lib.hid (by have h := HQ2.out; rw [hr] at h; exact h)
      have hb := HRng.out.2 b8 hr
      have HA8 : Hid (-1 ≤ b8 ∧ b8 + (fuP (p.fs.drop (j + 1)) : Nat) + (p.ts.length + thS p.ts : Nat) ≤ 1000000) := Lib.hid (by have := HA1.out; constructor <;> omega)
      have HK9 : Hid (Kq Pb wP w8) := Lib.hid (HK7.out.1.trans HK8.out)
      clear hr hb HQ2
      go_wp2_with fail
      go_roundw
      case rel => exact ⟨j + 1, b8, by go_num, by omega, HP8, HA8, HQ3, HK9⟩
      case measure => simp [intOf]; omega
    ·have bt : (f.t.k != 0) = true := by simpa using ht0
     by_cases h4 : ev &&& 4 = 0
     ·have hd5 : (bits BinOp.and IntKind.u8 (ev : Int) 4 != 0) = false := by rw [hd4]; exact decide_eq_false (fun h => h h4)
      have HQ2 := Lib.hid (show (match wrSs p s.does ⟨false, false, decide (ev &&& 1 ≠ 0)⟩ f.body (a + 1) with | .found q => Wrg.found q | .on a1 => wrFu p s.does (p.fs.drop (j + 1)) (j + 1) a1) = R2 from (by
       have h := HQ1.out
       rw [HGd.out, if_neg (fun hh => hh.2 h4)] at h
       exact h))
      clear ht0 hd4 h4 HQ1
      go_wp2_with fail
      simp only [HN7.out.1, HN7.out.2.1, HN7.out.2.2]
      clear z0 z1 z2 z3 z4 z5 q0 q1 q2 q3 c0 f0 y2 k5 d5 c7 bt
      have HS : Hid (w7.drew.cell? ⟨Z, 5, none⟩ = some (.slice f.bd.a f.body.length f.bd.c) ∧ w7.drew.cell? ⟨Ke, 5, none⟩ = some (.slice (some ⟨Db, 0, none⟩) p.fs.length p.fs.length) ∧ w7.drew.cell? ⟨Db, j, none⟩ = some (.int .u8 (ev : Int))) :=
       Lib.hid ⟨cell_at (HRow.out _ HK7.out.2) 5, cell_at (HEf.out _ HB7.out).k 5, (cell_at (HEf.out _ HB7.out).d j).trans (lookV (by
        have hl : j < s.does.length := by rw [(HEf.out _ HB7.out).dl]; exact hlt
        have := HGd.out
        rw [List.getD_eq_getElem?_getD, List.getElem?_eq_getElem hl] at this
        rw [List.getElem?_eq_getElem hl]
        exact congrArg some this))⟩
      have CW := Lib.hid (wrong_any B Kb Rb Fb Sb Ke Db Tb Pb p HKN.out s _ f.body (Nat.le_refl _) f.bd false false (bits BinOp.and IntKind.u8 (ev : Int) 1 != 0) (a + 1) w7.drew ((HWr.out (a + 1) w7 HB7.out HP7.out).below (Below.refl _ _).drew) ((HSts.out _ HB7.out).keep (Below.refl _ _).drew (Nat.le_refl B)) HKf.out (by omega) (by have := HA1.out; push_cast at this; omega))
      have HRng := Lib.hid (wrSs_range (p := p) (d := s.does) f.body ⟨false, false, decide (ev &&& 1 ≠ 0)⟩ (a + 1))
      rw [HD1.out] at CW
      have HCell : Hid (∀ W, Kq Pb w7 W → W.cell? ⟨Z, 5, none⟩ = some (.slice f.bd.a f.body.length f.bd.c) ∧ W.cell? ⟨Ke, 5, none⟩ = some (.slice (some ⟨Db, 0, none⟩) p.fs.length p.fs.length) ∧ W.cell? ⟨Db, j, none⟩ = some (.int .u8 (ev : Int))) :=
       Lib.hid fun W hk => ⟨cell_at (HRow.out _ (HK7.out.2.trans hk)) 5, cell_at (HEf.out _ (HKB.out _ (HK7.out.1.trans hk))).k 5, (hk.cell (p := ⟨Db, j, none⟩) (World.block_lt_of_cell? _ _ HS.out.2.2) (fun e => HNe.out.2.1.2.1 e.symm)).trans HS.out.2.2⟩
      refine wp_region_L (l := 14) (S := (fun W => W.cell? ⟨Z, 5, none⟩ = some (.slice f.bd.a f.body.length f.bd.c) ∧ W.cell? ⟨Ke, 5, none⟩ = some (.slice (some ⟨Db, 0, none⟩) p.fs.length p.fs.length) ∧ W.cell? ⟨Db, j, none⟩ = some (.int .u8 (ev : Int)))) (by kernel_rfl) ?_ (fun hHeld => ?_)
      ·((try dsimp only); (exact HS.out))
      refine wpAnyL_take (i := 0) (oi := _) (v := ?v16) rfl (by kernel_rfl) (fun _ _ _ h => h) (by assumption) (Or.inl ⟨by kernel_rfl, ?y16⟩) ?r16
      case y16 => (intro w hSw; (try dsimp only at hSw); go_simp; all_goals with_reducible rfl)
      try simp only [sl1, sl2, sl3, Act.put, sl4, sl5, sl6]
      refine wpAnyL_take (i := 1) (oi := _) (v := ?v17) rfl (by kernel_rfl) (fun _ _ _ h => h) (by assumption) (Or.inl ⟨by kernel_rfl, ?y17⟩) ?r17
      case y17 => (intro w hSw; (try dsimp only at hSw); go_simp; all_goals with_reducible rfl)
      try simp only [sl1, sl2, sl3, Act.put, sl4, sl5, sl6]
      refine wpAnyL_take (i := 2) (oi := _) (v := ?v18) rfl (by kernel_rfl) (fun _ _ _ h => h) (by assumption) (Or.inl ⟨by kernel_rfl, ?y18⟩) ?r18
      case y18 => (intro w hSw; (try dsimp only at hSw); go_simp; all_goals with_reducible rfl)
      try simp only [sl1, sl2, sl3, Act.put, sl4, sl5, sl6]
      refine wpAnyL_take (i := 3) (oi := _) (v := ?v19) rfl (by kernel_rfl) (fun _ _ _ h => h) (by assumption) (Or.inl ⟨by kernel_rfl, ?y19⟩) ?r19
      case y19 => (intro w hSw; (try dsimp only at hSw); go_simp; all_goals with_reducible rfl)
      try simp only [sl1, sl2, sl3, Act.put, sl4, sl5, sl6]
      refine wpAnyL_take (i := 4) (oi := _) (v := ?v20) rfl (by kernel_rfl) (fun _ _ _ h => h) (by assumption) (Or.inl ⟨by kernel_rfl, ?y20⟩) ?r20
      case y20 => (intro w hSw; (try dsimp only at hSw); go_simp; all_goals with_reducible rfl)
      try simp only [sl1, sl2, sl3, Act.put, sl4, sl5, sl6]
      refine wpAnyL_take (i := 5) (oi := _) (v := ?v21) rfl (by kernel_rfl) (fun _ _ _ h => h) (by assumption) (Or.inl ⟨by kernel_rfl, ?y21⟩) ?r21
      case y21 => (intro w hSw; (try dsimp only at hSw); go_simp; all_goals with_reducible rfl)
      try simp only [sl1, sl2, sl3, Act.put, sl4, sl5, sl6]
      refine wpAnyL_take (i := 6) (oi := _) (v := ?v22) rfl (by kernel_rfl) (fun _ _ _ h => h) (by assumption) (Or.inl ⟨by kernel_rfl, ?y22⟩) ?r22
      case y22 => (intro w hSw; (try dsimp only at hSw); go_simp; all_goals with_reducible rfl)
      try simp only [sl1, sl2, sl3, Act.put, sl4, sl5, sl6]
      refine wpAnyL_take (i := 7) (oi := _) (v := ?v23) rfl (by kernel_rfl) (fun _ _ _ h => h) (by assumption) (Or.inl ⟨by kernel_rfl, ?y23⟩) ?r23
      case y23 => (intro w hSw; (try dsimp only at hSw); go_simp; all_goals with_reducible rfl)
      try simp only [sl1, sl2, sl3, Act.put, sl4, sl5, sl6]
      refine wpAnyL_take (i := 8) (oi := _) (v := ?v24) rfl (by kernel_rfl) (fun _ _ _ h => h) (by assumption) (Or.inl ⟨by kernel_rfl, ?y24⟩) ?r24
      case y24 => (intro w hSw; (try dsimp only at hSw); go_simp; all_goals with_reducible rfl)
      try simp only [sl1, sl2, sl3, Act.put, sl4, sl5, sl6]
      refine wpAnyL_take (i := 9) (oi := _) (v := ?v25) rfl (by kernel_rfl) (fun _ _ _ h => h) (by assumption) (Or.inl ⟨by kernel_rfl, ?y25⟩) ?r25
      case y25 => (intro w hSw; (try dsimp only at hSw); go_simp; all_goals with_reducible rfl)
      try simp only [sl1, sl2, sl3, Act.put, sl4, sl5, sl6]
      refine wpAnyL_take (i := 10) (oi := _) (v := ?v26) rfl (by kernel_rfl) (fun _ _ _ h => h) (by assumption) (Or.inl ⟨by kernel_rfl, ?y26⟩) ?r26
      case y26 => (intro w hSw; (try dsimp only at hSw); go_simp; all_goals with_reducible rfl)
      try simp only [sl1, sl2, sl3, Act.put, sl4, sl5, sl6]
      refine wpAnyL_take (i := 11) (oi := _) (v := ?v27) rfl (by kernel_rfl) (fun _ _ _ h => h) (by assumption) (Or.inl ⟨by kernel_rfl, ?y27⟩) ?r27
      case y27 => (intro w hSw; (try dsimp only at hSw); go_simp; all_goals with_reducible rfl)
      try simp only [sl1, sl2, sl3, Act.put, sl4, sl5, sl6]
      refine wpAnyL_take (i := 12) (oi := _) (v := ?v28) rfl (by kernel_rfl) (fun _ _ _ h => h) (by assumption) (Or.inl ⟨by kernel_rfl, ?y28⟩) ?r28
      case y28 => (intro w hSw; (try dsimp only at hSw); go_simp; all_goals with_reducible rfl)
      try simp only [sl1, sl2, sl3, Act.put, sl4, sl5, sl6]
      refine wpAnyL_step (j := 13) (o := _) (by kernel_rfl) rfl (fun K hK => ?_)
      (go_simp; go_at_call 61; rw [HD1.out]; refine CW.out.mono ?_; rintro e8 w8 hw8; obtain ⟨v8, b8, rfl, hp8, hk8, hr8⟩ := hw8.val; have HV8 := Lib.hid hr8; have HP8 := Lib.hid hp8; have HK8 : Hid (Kq Pb w7 w8) := Lib.hid ((Kept.refl _ w7).drew.trans hk8); have HS8 := Lib.hid (HCell.out _ HK8.out); clear hw8 hp8 hk8 hr8)
      refine hK _ _ ?_ (fun hHeld => ?_)
      ·((try dsimp only); (exact HS8.out))
      clear hK K
      try simp only [sl1, sl2, sl3, Act.put, sl4, sl5, sl6]
      refine wpAnyL_last (j := 14) (o := _) (by kernel_rfl) rfl (by rfl) (by kernel_rfl) (fun K hK => ?_)
      go_simp
      (refine hK _ _ ?_; clear hK K)
      try simp only [sl1, sl2, sl3, Act.put, sl4, sl5, sl6]
      have HB8 : Hid (Below w1.heap.size w1 w8) := Lib.hid (HKB.out _ (HK7.out.1.trans HK8.out))
      clear hHeld HS HS8 CW HCell
      rcases HV8.out with hr | ⟨rfl, hr⟩
      ·have hv := (HRng.out.1 v8 hr).1
       have d1 : decide (0 ≤ v8) = true := by simp; omega
       have HF : Hid (EfC p (v8, 11)) := Lib.hid (by
        have h := HQ2.out
        rw [hr] at h
        have h2 := HR2.out
        rw [← h] at h2
        have h3 := HRest.out
        rw [h2] at h3
        exact h3)
       have HFb : Hid (Below w.heap.size w w8) := Lib.hid (HW1.out.trans (HB8.out.mono HW1.out.size))
       clear hr HQ2
       go_wp2_with fail
       refine bodyPost_ret (v := .tuple #[.int .i64 v8, .int .i64 11]) (by simp [results, Tryz.results25, go_sem]) rfl ?_
       exact ⟨(v8, 11), rfl, HF.out, HFb.out⟩
      ·have HQ3 : Hid (wrFu p s.does (p.fs.drop (j + 1)) (j + 1) b8 = R2) := Lib.hid (by have h := HQ2.out; rw [hr] at h; exact h)
       have hb := HRng.out.2 b8 hr
       have HA8 : Hid (-1 ≤ b8 ∧ b8 + (fuP (p.fs.drop (j + 1)) : Nat) + (p.ts.length + thS p.ts : Nat) ≤ 1000000) := Lib.hid (by have := HA1.out; constructor <;> omega)
       have HK9 : Hid (Kq Pb wP w8) := Lib.hid (HK7.out.1.trans HK8.out)
       clear hr hb HQ2
       go_wp2_with fail
       go_roundw
       case rel => exact ⟨j + 1, b8, by go_num, by omega, HP8, HA8, HQ3, HK9⟩
       case measure => simp [intOf]; omega
     ·have hd5 : (bits BinOp.and IntKind.u8 (ev : Int) 4 != 0) = true := by rw [hd4]; exact decide_eq_true h4
      have HF : Hid (EfC p (a + 1, 11)) := Lib.hid (by
       have h := HQ1.out
       rw [HGd.out, if_pos ⟨ht0, h4⟩] at h
       have h2 := HR2.out
       rw [← h] at h2
       have h3 := HRest.out
       rw [h2] at h3
       exact h3)
      have HFb : Hid (Below w.heap.size w w7) := Lib.hid (HW1.out.trans (HB7.out.mono HW1.out.size))
      rw [← HN7.out.2.2, ← HN7.out.2.1] at HFb
      clear ht0 hd4 h4 HQ1
      go_wp2_with fail
      refine bodyPost_ret (v := .tuple #[.int .i64 (a + 1), .int .i64 11]) (by simp [results, Tryz.results25, go_sem]) rfl ?_
      exact ⟨(a + 1, 11), rfl, HF.out, HFb.out⟩
   ·obtain rfl : j = p.fs.length := by omega
    obtain ⟨R3, hR3⟩ : ∃ R3, wrTh p s.does p.ts a = R3 := ⟨_, rfl⟩
    have HR3 : Hid (EfC p (efEnd2 R3)) := Lib.hid (by
     have h := hQ.out
     rw [List.drop_length, wrFu] at h
     have h2 := HR2.out
     rw [← h] at h2
     have h3 := HRest.out
     rw [h2, show efEnd3 p s.does (.on a) = efEnd2 (wrTh p s.does p.ts a) from rfl, hR3] at h3
     exact h3)
    have HT0 : Hid (wrTh p s.does (p.ts.drop 0) a = R3) := Lib.hid (by rw [List.drop_zero]; exact hR3)
    have HC0 : Hid (-1 ≤ a ∧ a + ((p.ts.drop 0).length + thS (p.ts.drop 0) : Nat) ≤ 1000000) := Lib.hid (by rw [List.drop_zero]; have := hA.out; constructor <;> omega)
    have row := HX.out _ HB0.out
    have q0 := cell_at row 0
    have q1 := cell_at row 1
    have q2 := cell_at row 2
    have q3 := cell_at row 3
    simp only [sl7, sl8, sl9] at q0 q1 q2 q3
    clear row
    clear hA hQ hR3 HR2 HRest
    go_wp2_with fail
    clear q0 q1 q2 q3
    go_loopw [105] (fun ii wr => ∃ (j : Nat) (b : Int), ii = .int .i64 j ∧ j ≤ p.ts.length ∧ Hid (PlAt Pb b wr) ∧ Hid (-1 ≤ b ∧ b + ((p.ts.drop j).length + thS (p.ts.drop j) : Nat) ≤ 1000000) ∧ Hid (wrTh p s.does (p.ts.drop j) b = R3) ∧ Hid (Kq Pb wP wr)) (fun ii _ => p.ts.length - (intOf ii).toNat)
    case atStart => exact ⟨0, a, rfl, Nat.zero_le _, hPl, HC0, HT0, hK⟩
    case round =>
     clear HC0 HT0 hPl hK HB0 hlt p2 hj
     obtain ⟨j, b, rfl, hj, hPl, hA, hQ, hK⟩ := hrel
     have p2 : (0 : Int) ≤ (j : Int) := Int.natCast_nonneg _
     have HB0 : Hid (Below w1.heap.size w1 wr) := Lib.hid (HKB.out _ hK.out)
     by_cases hlt : j < p.ts.length
     ·obtain ⟨t, ht⟩ : ∃ t, p.ts[j]? = some t := ⟨_, List.getElem?_eq_getElem hlt⟩
      have hdrop : p.ts.drop j = t :: p.ts.drop (j + 1) := by
       have := List.drop_eq_getElem_cons hlt
       rw [List.getElem?_eq_getElem hlt] at ht
       injection ht with ht
       rw [this, ht]
      have HMem := Lib.hid (List.mem_of_getElem? ht)
      have hIr := HI.out _ HB0.out
      obtain ⟨rb, ro, hda, hrb, hrow⟩ := hIr.trow (by intro h0; rw [h0] at hlt; simp at hlt)
      obtain ⟨z0⟩ := hrow j t ht
      rw [Nat.mul_one] at z0
      have hA1 := hA.out
      have hQ1 := hQ.out
      rw [hdrop] at hA1 hQ1
      rw [List.length_cons, thS_cons] at hA1
      rw [wrTh] at hQ1
      have hb0 : -1 ≤ b := hA1.1
      have hb1 : b ≤ 999999 := by have := hA1.2; push_cast at this; omega
      have HA1 : Hid (b + 1 + (plSts t.l : Nat) + ((p.ts.drop (j + 1)).length + thS (p.ts.drop (j + 1)) : Nat) ≤ 1000000) := Lib.hid (by have := hA1.2; push_cast at *; omega)
      have HQ1 := Lib.hid hQ1
      obtain ⟨w7, hw7⟩ : ∃ w7, wr.setCell ⟨Pb, 0, none⟩ (.int .i64 (b + 1)) = w7 := ⟨_, rfl⟩
      have hk7 : Kq Pb wr w7 := by rw [← hw7]; exact Kept.setCell (S := fun k => k = Pb) (Kept.refl _ _) (p := ⟨Pb, 0, none⟩) (Or.inl rfl) _
      have HP7 : Hid (PlAt Pb (b + 1) w7) := Lib.hid (by rw [← hw7]; exact hPl.out.set (b + 1))
      have HK7 : Hid (Kq Pb wP w7) := Lib.hid (hK.out.trans hk7)
      have HB7 : Hid (Below w1.heap.size w1 w7) := Lib.hid (HKB.out _ HK7.out)
      have c0 := cell_at hPl.out 0
      have f0 := frz_at hPl.out 0
      simp only [sl7, sl8, sl9] at c0
      have CW := Lib.hid (wrong_any B Kb Rb Fb Sb Ke Db Tb Pb p HKN.out s _ t.l (Nat.le_refl _) t.d false true false (b + 1) w7 (HWr.out (b + 1) w7 HB7.out HP7.out) ((HI.out _ HB7.out).tsub t HMem.out) (HKN.out.ts t HMem.out) (by omega) (by have := HA1.out; push_cast at this; omega))
      have HRng := Lib.hid (wrSs_range (p := p) (d := s.does) t.l ⟨false, true, false⟩ (b + 1))
      have HN7 := Lib.hid hw7
      have p1 : (j : Int) < (p.ts.length : Int) := by omega
      clear hdrop hIr hrb hrow ht hw7 hk7 hA hQ hA1 hQ1 hK hPl
      rw [hda]
      go_wp2_with fail
      simp only [HN7.out]
      clear z0 c0 f0
      refine CW.out.mono ?_
      rintro e8 w8 hw8
      obtain ⟨v8, b8, rfl, hp8, hk8, hr8⟩ := hw8.val
      have HV8 := Lib.hid hr8
      have HP8 := Lib.hid hp8
      have HK9 : Hid (Kq Pb wP w8) := Lib.hid (HK7.out.trans hk8)
      have HB8 : Hid (Below w1.heap.size w1 w8) := Lib.hid (HKB.out _ HK9.out)
      clear hw8 hp8 hk8 hr8 CW
      rcases HV8.out with hr | ⟨rfl, hr⟩
      ·have hv := (HRng.out.1 v8 hr).1
       have d1 : decide (0 ≤ v8) = true := by simp; omega
       have HF : Hid (EfC p (v8, 11)) := Lib.hid (by
        have h := HQ1.out
        rw [hr] at h
        have h3 := HR3.out
        rw [← h] at h3
        exact h3)
       have HFb : Hid (Below w.heap.size w w8) := Lib.hid (HW1.out.trans (HB8.out.mono HW1.out.size))
       clear hr HQ1
       go_wp2_with fail
       refine bodyPost_ret (v := .tuple #[.int .i64 v8, .int .i64 11]) (by simp [results, Tryz.results25, go_sem]) rfl ?_
       exact ⟨(v8, 11), rfl, HF.out, HFb.out⟩
      ·have HQ3 : Hid (wrTh p s.does (p.ts.drop (j + 1)) b8 = R3) := Lib.hid (by have h := HQ1.out; rw [hr] at h; exact h)
       have hb := HRng.out.2 b8 hr
       have HA8 : Hid (-1 ≤ b8 ∧ b8 + ((p.ts.drop (j + 1)).length + thS (p.ts.drop (j + 1)) : Nat) ≤ 1000000) := Lib.hid (by have := HA1.out; constructor <;> omega)
       clear hr hb HQ1
       go_wp2_with fail
       go_roundw
       case rel => exact ⟨j + 1, b8, by go_num, by omega, HP8, HA8, HQ3, HK9⟩
       case measure => simp [intOf]; omega
     ·obtain rfl : j = p.ts.length := by omega
      have HF : Hid (EfC p (0, 0)) := Lib.hid (by
       have h := hQ.out
       rw [List.drop_length, wrTh] at h
       have h3 := HR3.out
       rw [← h] at h3
       exact h3)
      have HFb : Hid (Below w.heap.size w wr) := Lib.hid (HW1.out.trans (HB0.out.mono HW1.out.size))
      clear hA hQ hK
      go_wp2_with fail
      refine bodyPost_ret (v := .tuple #[.int .i64 0, .int .i64 0]) (by simp [results, Tryz.results25, go_sem]) rfl ?_
      exact ⟨(0, 0), rfl, HF.out, HFb.out⟩
end Go.Proofs.YtkklogikakcanaaGreatDoor
namespace Go.Proofs.YtkklogikakcanaaGreatDoor
open Go Go.Maps Go.RowKit
theorem efCheck_any (B : Nat) (p : Pr) (w : World) (G : GlB B w) (N : NumG B w) (hI : PrIn w B p) :
  Calls Tryz.prog 25 #[p.val] w fun e w' => ∃ F : Int × Int, e = .returned (.tuple #[.int .i64 F.1, .int .i64 F.2]) ∧ EfC p F ∧ Below w.heap.size w w' := by
 by_cases hT : (typesCheck p).2 = 0
 ·exact efCheck_ok B p w G N hI hT
 ·refine (efCheck_bad B p w G N hI hT).mono ?_
  rintro e w' ⟨rfl, hb⟩
  exact ⟨(0, 1), rfl, .unfit hT, hb⟩
theorem EfC.fit {p : Pr} {F : Int × Int} (h : EfC p F) (h0 : F.2 = 0) : (typesCheck p).2 = 0 := by
 cases h with
 | unfit _ => exact absurd h0 (by decide)
 | ring ht _ _ _ => exact ht
 | rest ht _ _ => exact ht
def OfEnds (p : Pr) (w : World) (F : Int × Int) (e : Ending) (w' : World) : Prop :=
 (F.2 ≠ 0 ∧ e = .returned (.tuple #[.slice none 0 0, .int .i64 F.2])) ∨
 (F.2 = 0 ∧ ∃ (s : EfS) (Db : Nat), EvL p 0 (efNew p) s ∧ e = .returned (.tuple #[.slice (some ⟨Db, 0, none⟩) p.fs.length p.fs.length, .int .i64 0]) ∧ w'.heap[Db]? = some (.cells (doesV s.does) 50 (0, 0)) ∧ w.heap.size ≤ Db)
set_option maxHeartbeats 4000000 in
set_option maxRecDepth 100000 in
theorem efOf_any (B : Nat) (p : Pr) (w : World) (G : GlB B w) (N : NumG B w) (hI : PrIn w B p) :
  Calls Tryz.prog 26 #[p.val] w fun e w' => ∃ F : Int × Int, EfC p F ∧ Below w.heap.size w w' ∧ OfEnds p w F e w' := by
 obtain ⟨X, hX⟩ : ∃ X, w.heap.size = X := ⟨_, rfl⟩
 obtain ⟨w1, hw1⟩ : ∃ w1, w.alloc (prObj p) = w1 := ⟨_, rfl⟩
 have hb1 : Below w.heap.size w w1 := by rw [← hw1]; exact (Below.refl _ _).alloc (Nat.le_refl _) _
 have x1 : w1.heap[X]? = some (prObj p) := by rw [← hw1, ← hX]; exact heap_alloc_new w _
 have C := Lib.hid (efCheck_any B p w1 (G.below (hb1.mono G.le)) (N.keep (hb1.mono G.le)) (hI.keep (hb1.mono G.le) (Nat.le_refl B)))
 have HB1 := Lib.hid hb1
 have HX1 := Lib.hid x1
 have HN := Lib.hid (And.intro hX hw1)
 have HL : Hid (∀ W, Below w1.heap.size w1 W → (typesCheck p).2 = 0 → Calls Tryz.prog 59 #[p.val] W fun e w' => ∃ Kb Rb Fb Sb Ke Db Tb s, e = .returned (.tuple #[.pointer (some ⟨Ke, 0, none⟩), .int .i64 0]) ∧ EvL p 0 (efNew p) s ∧ EfIs B Kb Rb Fb Sb Ke Db Tb p s w' ∧ (W.heap.size ≤ Ke ∧ W.heap.size ≤ Db ∧ W.heap.size ≤ Tb) ∧ Below W.heap.size W w') :=
  Lib.hid fun W hb hT => look_ok B p W (G.below ((hb1.trans (hb.mono hb1.size)).mono G.le)) (N.keep ((hb1.trans (hb.mono hb1.size)).mono G.le)) (hI.keep ((hb1.trans (hb.mono hb1.size)).mono G.le) (Nat.le_refl B)) hT
 obtain ⟨q0, q1, q2, q3⟩ := PrS.of x1
 rw [← hw1, ← hX] at q0 q1 q2 q3
 clear hX hw1 hb1 x1 G N hI
 go_enter Tryz.func26, Tryz.ntmps26
 go_wp2_with fail
 simp only [HN.out.1, HN.out.2]
 refine C.out.mono ?_
 rintro e w2 ⟨⟨a, b⟩, rfl, hF, hb2⟩
 have HF := Lib.hid hF
 have HB2 := Lib.hid hb2
 clear q0 q1 q2 q3 C hF
 by_cases h0 : b = 0
 ·subst h0
  obtain ⟨q0, q1, q2, q3⟩ := PrS.of ((hb2.block X (blk_lt HX1.out)).trans HX1.out)
  have CL := Lib.hid (HL.out w2 hb2 (HF.out.fit rfl))
  clear hb2
  go_wp2_with fail
  refine CL.out.mono ?_
  rintro e w3 ⟨Kb, Rb, Fb, Sb, Ke, Db, Tb, s, rfl, hev, hef, hlo, hb3⟩
  have k5 := cell_at hef.k 5
  simp only [sl7, sl8, sl9] at k5
  have HB3 : Hid (Below w.heap.size w w3) := Lib.hid ((HB1.out.trans (HB2.out.mono HB1.out.size)).trans (hb3.mono (Nat.le_trans HB1.out.size HB2.out.size)))
  have HZ : Hid (EvL p 0 (efNew p) s ∧ w3.heap[Db]? = some (.cells (doesV s.does) 50 (0, 0)) ∧ w.heap.size ≤ Db) := Lib.hid ⟨hev, hef.d, Nat.le_trans (Nat.le_trans HB1.out.size HB2.out.size) hlo.2.1⟩
  clear hev hef hlo hb3 q0 q1 q2 q3 CL
  go_wp2_with fail
  refine bodyPost_ret (v := .tuple #[.slice (some ⟨Db, 0, none⟩) p.fs.length p.fs.length, .int .i64 0]) (by simp [results, Tryz.results26, go_sem]) rfl ?_
  exact ⟨(a, 0), HF.out, HB3.out, Or.inr ⟨rfl, s, Db, HZ.out.1, rfl, HZ.out.2.1, HZ.out.2.2⟩⟩
 ·have hb : (b != 0) = true := by simpa using h0
  have HB3 : Hid (Below w.heap.size w w2) := Lib.hid (HB1.out.trans (hb2.mono HB1.out.size))
  have H0 := Lib.hid h0
  clear hb2 h0
  go_wp2_with fail
  refine bodyPost_ret (v := .tuple #[.slice none 0 0, .int .i64 b]) (by simp [results, Tryz.results26, go_sem]) rfl ?_
  exact ⟨(a, b), HF.out, HB3.out, Or.inl ⟨H0.out, rfl⟩⟩
end Go.Proofs.YtkklogikakcanaaGreatDoor
namespace Go.Proofs.YtkklogikakcanaaGreatDoor
open Go Go.RowKit
abbrev thObjE (S1 : Nat) : Obj := .cells #[.slice (some ⟨S1, 0, none⟩) 1 1] 51 (0, 0)
theorem ty0_okE : ty0.Ok := ⟨by unfold u8ok; decide, by simp [lenOk, ty0], by unfold i64ok; decide⟩
theorem ex_leafE {w : World} {B : Nat} {k n : Int} {nm : List UInt8} (hk : u8ok k) (hn : i64ok n) (hnm : lenOk nm.length) : ExIn w B (.mk k n nm ty0 hdN []) :=
 .mk hk hn hnm ty0_okE (by simp [lenOk]) (fun h => absurd rfl h) (fun y hy => by simp at hy)
theorem fls0_inE {w : World} {B : Nat} : FlsIn w B hdN [] := ⟨by simp [lenOk], fun h => absurd rfl h, fun f hf => by simp at hf⟩
theorem foldl_setE : ∀ (vs pre rest : List Value), rest.length = vs.length → (vs.zipIdx pre.length).foldl (fun cs x => cs.setIfInBounds x.2 x.1) (pre ++ rest).toArray = (pre ++ vs).toArray
 | [], pre, rest, h => by
  obtain rfl : rest = [] := List.eq_nil_of_length_eq_zero h
  simp
 | v :: vs, pre, [], h => by simp at h
 | v :: vs, pre, r :: rest, h => by
  have ih := foldl_setE vs (pre ++ [v]) rest (by simpa using h)
  rw [List.zipIdx_cons, List.foldl_cons]
  have e : (pre ++ r :: rest).toArray.setIfInBounds pre.length v = ((pre ++ [v]) ++ rest).toArray := by
   simp [List.set_append]
  rw [e, show pre.length + 1 = (pre ++ [v]).length by simp, ih]
  simp
structure EfGl (B : Nat) (w : World) : Prop where
 gl : GlB B w
 num : NumG B w
theorem EfGl.below {B : Nat} {w w' : World} (h : EfGl B w) (hb : Below w.heap.size w w') : EfGl w'.heap.size w' := by
 have h1 := h.gl.below (hb.mono h.gl.le)
 have h2 := h.num.keep (hb.mono h.gl.le)
 exact ⟨GlB.of h1.g, ⟨h2.c0, h2.c1, h2.c2, h2.c3, Nat.lt_of_lt_of_le h2.lt h1.le⟩⟩
abbrev setX : Ex := .mk 3 0 [110] ty0 hdN []
abbrev setY : Ex := .mk 1 1 [] ty0 hdN []
abbrev setS : St := .mk 2 [] ty0 setX setY hdN [] hdN []
abbrev atS : St := .mk 5 [] ty0 x0 x0 hdN [] hdN []
abbrev nFl : Fl := ⟨[110], ⟨1, [], 0⟩⟩
abbrev prA (N1 S1 S2 : Nat) : Pr := ⟨hdN, [], ⟨some ⟨N1, 0, none⟩, 1⟩, [nFl], hdN, [], ⟨some ⟨S2, 0, none⟩, 1⟩, [⟨⟨some ⟨S1, 0, none⟩, 1⟩, [setS]⟩]⟩
abbrev prB (N1 S3 S4 F1 : Nat) : Pr := ⟨hdN, [], ⟨some ⟨N1, 0, none⟩, 1⟩, [nFl], ⟨some ⟨F1, 0, none⟩, 2⟩, [⟨[102], hdN, [], ty0, ⟨some ⟨S3, 0, none⟩, 1⟩, [setS]⟩, ⟨[103], hdN, [], ty0, ⟨some ⟨S4, 0, none⟩, 1⟩, [atS]⟩], hdN, []⟩
theorem prA_types (N1 S1 S2 : Nat) : (typesCheck (prA N1 S1 S2)).2 = 0 := by
 have hnm : nameB [110] = true := by decide
 simp [typesCheck, faultOf, chkPr, chkRes, chkShs, chkFus, chkFls, chkThs, chkSts, chkSt, itemC, stForm, chkXt, chkEx, chkExs, exForm, arity, noEx, noTy, Ex.k, Ex.n, Ex.nm, Ex.t, Ex.args, St.k, St.nm, St.t, St.x, St.y, St.body, St.els, ty0, Chk.bind, scFault, scPr, scHeads, scRes, scShs, scFus, scThs, scSts, scSt, stOwn, valS, exS, exSs, exEnd, Sc.bind, Srt.has, numS, numT, hnm, fieldOf, shOf, tyForm, knownT, Srt.fits]
theorem prB_types (N1 S3 S4 F1 : Nat) : (typesCheck (prB N1 S3 S4 F1)).2 = 0 := by
 have hnm : nameB [110] = true := by decide
 have hnf : nameB [102] = true := by decide
 have hng : nameB [103] = true := by decide
 simp [typesCheck, faultOf, chkPr, chkRes, chkShs, chkFus, chkFls, chkThs, chkSts, chkSt, itemC, stForm, chkXt, chkEx, chkExs, exForm, arity, noEx, noTy, Ex.k, Ex.n, Ex.nm, Ex.t, Ex.args, St.k, St.nm, St.t, St.x, St.y, St.body, St.els, ty0, Chk.bind, scFault, scPr, scHeads, scRes, scShs, scFus, scThs, scSts, scSt, stOwn, valS, exS, exSs, exEnd, Sc.bind, Srt.has, numS, numT, hnm, hnf, hng, fieldOf, shOf, tyForm, knownT, Srt.fits, scPas]
theorem prA_check {N1 S1 S2 : Nat} {F : Int × Int} (h : EfC (prA N1 S1 S2) F) : F = (2, 11) := by
 have h2 : EfC (prA N1 S1 S2) (efRest (prA N1 S1 S2) (efNew (prA N1 S1 S2)).does) := .rest (prA_types N1 S1 S2) (.done (by simp)) (Or.inl rfl)
 have h3 : efRest (prA N1 S1 S2) (efNew (prA N1 S1 S2)).does = (2, 11) := by
  simp [efRest, wrFu, wrTh, wrSs, wrS, badAt, vOwn, vX, vXs, efOwn, efSt, shOf, fieldOf, efNew]
 rw [h3] at h2
 exact h.det h2
theorem setS_ev {N1 S3 S4 F1 : Nat} (s : EfS) : EvSs (prB N1 S3 S4 F1) s [setS] 1 s := by
 obtain ⟨e, h, he⟩ : ∃ e, EvSs (prB N1 S3 S4 F1) s [setS] e s ∧ e = 1 := ⟨_, .cons .nil .nil (.other (by decide) .nil) (.other (by decide) .nil) .nil, by simp [efCut, efOwn, shOf, fieldOf, efSt]⟩
 rwa [he] at h
theorem atS_ev {N1 S3 S4 F1 : Nat} (s : EfS) : EvSs (prB N1 S3 S4 F1) s [atS] 6 s := by
 obtain ⟨e, h, he⟩ : ∃ e, EvSs (prB N1 S3 S4 F1) s [atS] e s ∧ e = 6 := ⟨_, .cons .nil .nil (.other (by decide) .nil) (.other (by decide) .nil) .nil, by simp [efCut, efOwn, efSt]⟩
 rwa [he] at h
theorem prB_look (N1 S3 S4 F1 : Nat) : EvL (prB N1 S3 S4 F1) 0 (efNew (prB N1 S3 S4 F1)) ⟨[1, 6], [2, 2], false⟩ := by
 have h1 : EvO (prB N1 S3 S4 F1) ⟨[0, 0], [0, 0], false⟩ 0 1 ⟨[1, 0], [2, 0], false⟩ := .fresh (s := ⟨[0, 0], [0, 0], false⟩) (s1 := ⟨[0, 0], [1, 0], false⟩) rfl rfl (setS_ev _)
 have h2 : EvO (prB N1 S3 S4 F1) ⟨[1, 0], [2, 0], false⟩ 1 6 ⟨[1, 6], [2, 2], false⟩ := .fresh (s := ⟨[1, 0], [2, 0], false⟩) (s1 := ⟨[1, 0], [2, 1], false⟩) rfl rfl (atS_ev _)
 exact .step (by simp) h1 (.step (by simp) h2 (.done (by simp)))
theorem prB_end {N1 S3 S4 F1 : Nat} {F : Int × Int} (h : EfC (prB N1 S3 S4 F1) F) : F = (0, 0) := by
 have h2 : EfC (prB N1 S3 S4 F1) (efRest (prB N1 S3 S4 F1) [1, 6]) := .rest (prB_types N1 S3 S4 F1) (prB_look N1 S3 S4 F1) (Or.inl rfl)
 have h3 : efRest (prB N1 S3 S4 F1) [1, 6] = (0, 0) := by
  simp [efRest, wrFu, wrTh, wrSs, wrS, badAt, vOwn, vX, vXs, efOwn, efSt, shOf, fieldOf, ty0]
 rw [h3] at h2
 exact h.det h2
set_option maxHeartbeats 4000000 in
set_option maxRecDepth 100000 in
theorem set06_any (w : World) : Calls Tryz.prog 65 #[] w fun e w' => e = .returned (.agg (stCells 2 [] ty0 setX setY none 0 0 none 0 0).toArray) ∧ Below w.heap.size w w' := by
 have HB : Hid (∀ o, Below w.heap.size w (w.alloc o)) := Lib.hid fun o => (Below.refl _ _).alloc (Nat.le_refl _) o
 go_enter Tryz.func65, Tryz.ntmps65
 go_wp2_with (refine wpList_store_row rfl 72 _ _ rfl w.heap.size (stCells 2 [] ty0 setX setY none 0 0 none 0 0).toArray rfl rfl 72 _ (heap_alloc_new w _) (stSizeA ..) rfl (stOne ..) ?_; rw [alloc_setRow _ _ _ _ _ rfl])
 refine bodyPost_ret (results_cell_row (fn := Tryz.f65) Tryz.results65 _ _ w.heap.size 72 _ _ _ rfl (heap_alloc_new w _) Tryz.underlying72 rfl (stSizeA ..)) rfl ?_
 exact ⟨rfl, HB.out _⟩
theorem sts1_in {W : World} {S : Nat} {k : Int} {x y : Ex} (hk : u8ok k) (h : W.heap[S]? = some (stObj k [] ty0 x y none 0 0 none 0 0)) (hd : x.d = hdN ∧ x.args = [] ∧ y.d = hdN ∧ y.args = []) (hx : ExIn W W.heap.size x) (hy : ExIn W W.heap.size y) : StsIn W W.heap.size ⟨some ⟨S, 0, none⟩, 1⟩ [.mk k [] ty0 x y hdN [] hdN []] :=
 ⟨by simp [lenOk], fun _ => ⟨S, 0, rfl, blk_lt h, fun i u hu => by
  match i, hu with
  | 0, hu =>
   cases hu
   exact ⟨cell_at h 0, cell_at h 1, cell_at h 2, cell_at h 3, cell_at h 4, ⟨cell_at h 5, cell_at h 6, cell_at h 7, cell_at h 8, cell_at h 9, cell_at h 10, cell_at h 11⟩,
    ⟨cell_at h 12, cell_at h 13, cell_at h 14, cell_at h 15, cell_at h 16, cell_at h 17, cell_at h 18⟩, cell_at h 19, cell_at h 20⟩
  | n + 1, hu => simp at hu⟩, fun s hs => by
   rw [List.mem_singleton] at hs
   subst hs
   exact .mk hk (by simp [lenOk]) ty0_okE hx hy (by simp [lenOk]) (by simp [lenOk]) (fun h => absurd rfl h) (fun h => absurd rfl h) (fun s hs => by simp at hs) (fun s hs => by simp at hs)⟩
abbrev nObj : Obj := .cells #[.string ⟨[110].toArray⟩, .int .u8 1, .string ⟨([] : List UInt8).toArray⟩, .int .i64 0] 93 (0, 0)
theorem nFl_in {W : World} {N1 : Nat} (h : W.heap[N1]? = some nObj) : FlsIn W W.heap.size ⟨some ⟨N1, 0, none⟩, 1⟩ [nFl] :=
 ⟨by simp [lenOk], fun _ => ⟨N1, 0, rfl, blk_lt h, fun i u hu => by
  match i, hu with
  | 0, hu => cases hu; exact ⟨cell_at h 0, cell_at h 1, cell_at h 2, cell_at h 3⟩
  | n + 1, hu => simp at hu⟩, fun f hf => by
   rw [List.mem_singleton] at hf
   subst hf
   exact ⟨by simp [lenOk], ⟨by unfold u8ok; decide, by simp [lenOk], by unfold i64ok; decide⟩⟩⟩
theorem setX_in {W : World} {B : Nat} : ExIn W B setX ∧ ExIn W B setY ∧ ExIn W B x0 :=
 ⟨ex_leafE (by unfold u8ok; decide) (by unfold i64ok; decide) (by simp [lenOk]), ex_leafE (by unfold u8ok; decide) (by unfold i64ok; decide) (by simp [lenOk]), ex_leafE (by unfold u8ok; decide) (by unfold i64ok; decide) (by simp [lenOk])⟩
theorem prA_in {W : World} {N1 S1 S2 : Nat} (h0 : W.heap[N1]? = some nObj) (h1 : W.heap[S1]? = some (stObj 2 [] ty0 setX setY none 0 0 none 0 0)) (h2 : W.heap[S2]? = some (thObjE S1)) : PrIn W W.heap.size (prA N1 S1 S2) :=
 ⟨by simp [lenOk], fun h => absurd rfl h, fun r hr => by simp at hr, nFl_in h0, by simp [lenOk], fun h => absurd rfl h, fun r hr => by simp at hr, by simp [lenOk],
  fun _ => ⟨S2, 0, rfl, blk_lt h2, fun i y hy => by
   match i, hy with
   | 0, hy => cases hy; exact ⟨cell_at h2 0⟩
   | n + 1, hy => simp at hy⟩,
  fun t ht => by
   rw [List.mem_singleton] at ht
   subst ht
   exact sts1_in (by unfold u8ok; decide) h1 ⟨rfl, rfl, rfl, rfl⟩ setX_in.1 setX_in.2.1⟩
abbrev fuObj2 (S3 S4 : Nat) : Obj := .cells #[.string ⟨[102].toArray⟩, .slice none 0 0, .int .u8 0, .string ⟨([] : List UInt8).toArray⟩, .int .i64 0, .slice (some ⟨S3, 0, none⟩) 1 1, .string ⟨[103].toArray⟩, .slice none 0 0, .int .u8 0, .string ⟨([] : List UInt8).toArray⟩, .int .i64 0, .slice (some ⟨S4, 0, none⟩) 1 1] 53 (0, 0)
abbrev atObj : Obj := .cells #[.int .u8 5, .string ⟨#[]⟩, .int .u8 0, .string ⟨#[]⟩, .int .i64 0, .int .u8 0, .int .i64 0, .string ⟨#[]⟩, .int .u8 0, .string ⟨#[]⟩, .int .i64 0, .slice none 0 0, .int .u8 0, .int .i64 0, .string ⟨#[]⟩, .int .u8 0, .string ⟨#[]⟩, .int .i64 0, .slice none 0 0, .slice none 0 0, .slice none 0 0] 72 (0, 0)
theorem prB_in {W : World} {N1 S3 S4 F1 : Nat} (h0 : W.heap[N1]? = some nObj) (h1 : W.heap[S3]? = some (stObj 2 [] ty0 setX setY none 0 0 none 0 0)) (h2 : W.heap[S4]? = some (stObj 5 [] ty0 x0 x0 none 0 0 none 0 0)) (h3 : W.heap[F1]? = some (fuObj2 S3 S4)) : PrIn W W.heap.size (prB N1 S3 S4 F1) :=
 ⟨by simp [lenOk], fun h => absurd rfl h, fun r hr => by simp at hr, nFl_in h0, by simp [lenOk],
  fun _ => ⟨F1, 0, rfl, blk_lt h3, fun i y hy => by
   match i, hy with
   | 0, hy => cases hy; exact ⟨cell_at h3 0, cell_at h3 1, cell_at h3 2, cell_at h3 3, cell_at h3 4, cell_at h3 5⟩
   | 1, hy => cases hy; exact ⟨cell_at h3 6, cell_at h3 7, cell_at h3 8, cell_at h3 9, cell_at h3 10, cell_at h3 11⟩
   | n + 2, hy => simp at hy⟩,
  fun f hf => by
   rcases List.mem_cons.1 hf with rfl | hf
   ·exact ⟨by simp [lenOk], fls0_inE, ty0_okE, sts1_in (by unfold u8ok; decide) h1 ⟨rfl, rfl, rfl, rfl⟩ setX_in.1 setX_in.2.1⟩
   ·rw [List.mem_singleton] at hf
    subst hf
    exact ⟨by simp [lenOk], fls0_inE, ty0_okE, sts1_in (by unfold u8ok; decide) h2 ⟨rfl, rfl, rfl, rfl⟩ setX_in.2.2 setX_in.2.2⟩,
  by simp [lenOk], fun h => absurd rfl h, fun t ht => by simp at ht⟩
set_option maxHeartbeats 8000000 in
set_option maxRecDepth 100000 in
theorem alive06_any (w : World) (G : EfGl w.heap.size w) :
  Calls Tryz.prog 30 #[] w fun e w' => e = .returned (.bool true) ∧ Below w.heap.size w w' := by
 have HG : Hid (∀ W, Below w.heap.size w W → GlB W.heap.size W ∧ NumG W.heap.size W) := Lib.hid fun W hb => ⟨(G.below hb).gl, (G.below hb).num⟩
 obtain ⟨vs, hvs⟩ : ∃ vs : List Value, stCells 2 [] ty0 setX setY none 0 0 none 0 0 = vs := ⟨_, rfl⟩
 have CS : Hid (∀ W, Calls Tryz.prog 65 #[] W fun e w' => e = .returned (.agg vs.toArray) ∧ Below W.heap.size W w') := Lib.hid fun W => by rw [← hvs]; exact set06_any W
 have Hso : Hid (stObj 2 [] ty0 setX setY none 0 0 none 0 0 = .cells vs.toArray 72 (0, 0)) := Lib.hid (by rw [← hvs])
 have hfo : List.foldl (fun cs x => cs.setIfInBounds x.snd x.fst) #[Value.int .u8 0, .string ⟨#[]⟩, .int .u8 0, .string ⟨#[]⟩, .int .i64 0, .int .u8 0, .int .i64 0, .string ⟨#[]⟩, .int .u8 0, .string ⟨#[]⟩, .int .i64 0, .slice none 0 0, .int .u8 0, .int .i64 0, .string ⟨#[]⟩, .int .u8 0, .string ⟨#[]⟩, .int .i64 0, .slice none 0 0, .slice none 0 0, .slice none 0 0] vs.zipIdx = vs.toArray := by
  have h := foldl_setE vs [] [Value.int .u8 0, .string ⟨#[]⟩, .int .u8 0, .string ⟨#[]⟩, .int .i64 0, .int .u8 0, .int .i64 0, .string ⟨#[]⟩, .int .u8 0, .string ⟨#[]⟩, .int .i64 0, .slice none 0 0, .int .u8 0, .int .i64 0, .string ⟨#[]⟩, .int .u8 0, .string ⟨#[]⟩, .int .i64 0, .slice none 0 0, .slice none 0 0, .slice none 0 0] (by rw [← hvs]; rfl)
  exact h
 have Hfo := Lib.hid hfo
 have hlen : vs.length = 21 := by rw [← hvs]; rfl
 obtain ⟨N1, hN1⟩ : ∃ N1, w.heap.size = N1 := ⟨_, rfl⟩
 obtain ⟨w1, hw1⟩ : ∃ w1, w.alloc nObj = w1 := ⟨_, rfl⟩
 have hb1 : Below w.heap.size w w1 := by rw [← hw1]; exact (Below.refl _ _).alloc (Nat.le_refl _) _
 have x1 : w1.heap[N1]? = some nObj := by rw [← hw1, ← hN1]; exact heap_alloc_new w _
 have HB1 := Lib.hid hb1
 have HX1 : Hid (∀ W, Below w1.heap.size w1 W → W.heap[N1]? = some nObj) := Lib.hid fun W hb => (hb.block N1 (blk_lt x1)).trans x1
 have HN1 := Lib.hid (And.intro hN1 hw1)
 clear G hvs hfo hN1 hw1 hb1 x1
 go_enter Tryz.func30, Tryz.ntmps30
 go_wp2_with fail
 simp only [HN1.out.1, HN1.out.2]
 refine (CS.out _).mono ?_
 rintro e w2 ⟨rfl, hb2⟩
 have HB2 : Hid (Below w1.heap.size w1 w2) := Lib.hid hb2
 clear hb2
 go_wp2_with fail
 rw [Hfo.out]
 obtain ⟨S1, hS1⟩ : ∃ S1, w2.heap.size = S1 := ⟨_, rfl⟩
 obtain ⟨w3, hw3⟩ : ∃ w3, w2.alloc (.cells vs.toArray 72 (0, 0)) = w3 := ⟨_, rfl⟩
 obtain ⟨w4, hw4⟩ : ∃ w4, w3.alloc (.cells #[.slice (some ⟨S1, 0, none⟩) 1 1] 51 (0, 0)) = w4 := ⟨_, rfl⟩
 have hb3 : Below w2.heap.size w2 w3 := by rw [← hw3]; exact (Below.refl _ _).alloc (Nat.le_refl _) _
 have hb4 : Below w3.heap.size w3 w4 := by rw [← hw4]; exact (Below.refl _ _).alloc (Nat.le_refl _) _
 have s3 : w3.heap.size = S1 + 1 := by rw [← hw3, World.size_alloc, hS1]
 have HB4 : Hid (Below w1.heap.size w1 w4) := Lib.hid (HB2.out.trans ((hb3.trans (hb4.mono hb3.size)).mono HB2.out.size))
 have x3 : w4.heap[S1]? = some (stObj 2 [] ty0 setX setY none 0 0 none 0 0) := (hb4.block S1 (by omega)).trans (by rw [Hso.out, ← hw3, ← hS1]; exact heap_alloc_new w2 _)
 have x4 : w4.heap[S1 + 1]? = some (thObjE S1) := by rw [← hw4, ← s3]; exact heap_alloc_new w3 _
 have g4 := HG.out _ (HB1.out.trans (HB4.out.mono HB1.out.size))
 have CC := Lib.hid (efCheck_any w4.heap.size (prA N1 S1 (S1 + 1)) w4 g4.1 g4.2 (prA_in (HX1.out _ HB4.out) x3 x4))
 rw [hS1, hw3, hw4]
 clear hS1 hw3 hw4 hb3 hb4 s3 x3 x4 g4
 refine CC.out.mono ?_
 rintro e w5 ⟨F, rfl, hF, hb5⟩
 obtain rfl := prA_check hF
 have HB5 : Hid (Below w1.heap.size w1 w5) := Lib.hid (HB4.out.trans (hb5.mono HB4.out.size))
 clear CC hF hb5 HB4 HB2
 dsimp only
 go_wp2_with fail
 refine (CS.out _).mono ?_
 rintro e w6 ⟨rfl, hb6⟩
 have HB6 : Hid (Below w1.heap.size w1 w6) := Lib.hid (HB5.out.trans (hb6.mono HB5.out.size))
 clear hb6
 go_wp2_with fail
 rw [Hfo.out]
 obtain ⟨S3, hS3⟩ : ∃ S3, w6.heap.size = S3 := ⟨_, rfl⟩
 obtain ⟨w7, hw7⟩ : ∃ w7, w6.alloc (.cells vs.toArray 72 (0, 0)) = w7 := ⟨_, rfl⟩
 obtain ⟨w8, hw8⟩ : ∃ w8, w7.alloc atObj = w8 := ⟨_, rfl⟩
 obtain ⟨w9, hw9⟩ : ∃ w9, w8.alloc (fuObj2 S3 (S3 + 1)) = w9 := ⟨_, rfl⟩
 have hb7 : Below w6.heap.size w6 w7 := by rw [← hw7]; exact (Below.refl _ _).alloc (Nat.le_refl _) _
 have hb8 : Below w7.heap.size w7 w8 := by rw [← hw8]; exact (Below.refl _ _).alloc (Nat.le_refl _) _
 have hb9 : Below w8.heap.size w8 w9 := by rw [← hw9]; exact (Below.refl _ _).alloc (Nat.le_refl _) _
 have s7 : w7.heap.size = S3 + 1 := by rw [← hw7, World.size_alloc, hS3]
 have s8 : w8.heap.size = S3 + 1 + 1 := by rw [← hw8, World.size_alloc, s7]
 have b79 : Below w7.heap.size w7 w9 := hb8.trans (hb9.mono hb8.size)
 have HB9 : Hid (Below w1.heap.size w1 w9) := Lib.hid (HB6.out.trans ((hb7.trans (b79.mono hb7.size)).mono HB6.out.size))
 have y3 : w9.heap[S3]? = some (stObj 2 [] ty0 setX setY none 0 0 none 0 0) := (b79.block S3 (by omega)).trans (by rw [Hso.out, ← hw7, ← hS3]; exact heap_alloc_new w6 _)
 have y4 : w9.heap[S3 + 1]? = some (stObj 5 [] ty0 x0 x0 none 0 0 none 0 0) := (hb9.block (S3 + 1) (by omega)).trans (by rw [← hw8, ← s7]; exact heap_alloc_new w7 _)
 have y5 : w9.heap[S3 + 1 + 1]? = some (fuObj2 S3 (S3 + 1)) := by rw [← hw9, ← s8]; exact heap_alloc_new w8 _
 have g9 := HG.out _ (HB1.out.trans (HB9.out.mono HB1.out.size))
 have CO := Lib.hid (efOf_any w9.heap.size (prB N1 S3 (S3 + 1) (S3 + 1 + 1)) w9 g9.1 g9.2 (prB_in (HX1.out _ HB9.out) y3 y4 y5))
 rw [hS3, hw7, hw8, hw9]
 clear hS3 hw7 hw8 hw9 hb7 hb8 hb9 s7 s8 b79 y3 y4 y5 g9
 refine CO.out.mono ?_
 rintro e wA ⟨F2, hF2, hbA, hE⟩
 obtain rfl := prB_end hF2
 have HBA : Hid (Below w.heap.size w wA) := Lib.hid (HB1.out.trans ((HB9.out.trans (hbA.mono HB9.out.size)).mono HB1.out.size))
 clear CO hF2 hbA
 rcases hE with ⟨h0, -⟩ | ⟨-, s, Db, hev, rfl, hd, -⟩
 ·exact absurd rfl h0
 ·obtain rfl := hev.det (prB_look N1 S3 (S3 + 1) (S3 + 1 + 1))
  have d0 := cell_at hd 0
  have d1 := cell_at hd 1
  simp only [List.map_cons, List.map_nil, sl7, sl8, sl9] at d0 d1
  clear hev hd
  dsimp only [List.length_cons, List.length_nil]
  go_wp2_with fail
  go_ret
  exact ⟨rfl, HBA.out⟩
end Go.Proofs.YtkklogikakcanaaGreatDoor
