import Derived.Test.YtkklogikakcanaaGreatDoorEffC
import Derived.Test.YtkklogikakcanaaGreatDoorTypesA
set_option linter.unusedVariables false
set_option linter.unusedSimpArgs false
open List renaming getElem_toArray → sl1, getElem_cons_zero → sl2, getElem_cons_succ → sl3, setIfInBounds_toArray → sl4, set_cons_zero → sl5, set_cons_succ → sl6
namespace Go.Proofs.YtkklogikakcanaaGreatDoor
open Go Go.Maps Go.RowKit
section
variable {P : Program} {md : Region.Mode} {ops : Array Oper} {Q : Exit → Act → World → Prop} {S : World → Prop} {l : Nat}
theorem wpAnyL_two {j1 j2 : Nat} {o1 o2 : Oper} {fuel : Nat} {listed : Array Bool} {a : Act} {w : World} (hr : Region.ready md ops listed = [j1, j2]) (ho1 : ops[j1]? = some o1) (ho2 : ops[j2]? = some o2)
  (h1 : ∀ K' : Act → World → Prop, (∀ a w, S w → (S w → wpAnyL P md ops Q S l fuel (listed.setIfInBounds j1 true) a w) → K' a w) → if Region.wanted o1 (yielded ops a.tmps) = true then Oper.wp P o1 a w K' Q else K' (a.put o1.dst undef) w)
  (h2 : ∀ K' : Act → World → Prop, (∀ a w, S w → (S w → wpAnyL P md ops Q S l fuel (listed.setIfInBounds j2 true) a w) → K' a w) → if Region.wanted o2 (yielded ops a.tmps) = true then Oper.wp P o2 a w K' Q else K' (a.put o2.dst undef) w) :
  wpAnyL P md ops Q S l (fuel + 1) listed a w :=
 ⟨fun h0 => (by rw [hr] at h0; cases h0), (by
  rw [hr]
  intro i hi
  have hi2 : i = j1 ∨ i = j2 := by simpa using hi
  rcases hi2 with rfl | rfl
  ·exact wpOp_step ho1 fun K' hK => h1 K' fun a w hS hW => hK a w ⟨fun _ => hS, hW hS⟩
  ·exact wpOp_step ho2 fun K' hK => h2 K' fun a w hS hW => hK a w ⟨fun _ => hS, hW hS⟩)⟩
theorem wpAnyL_three {j1 j2 j3 : Nat} {o1 o2 o3 : Oper} {fuel : Nat} {listed : Array Bool} {a : Act} {w : World} (hr : Region.ready md ops listed = [j1, j2, j3]) (ho1 : ops[j1]? = some o1) (ho2 : ops[j2]? = some o2) (ho3 : ops[j3]? = some o3)
  (h1 : ∀ K' : Act → World → Prop, (∀ a w, S w → (S w → wpAnyL P md ops Q S l fuel (listed.setIfInBounds j1 true) a w) → K' a w) → if Region.wanted o1 (yielded ops a.tmps) = true then Oper.wp P o1 a w K' Q else K' (a.put o1.dst undef) w)
  (h2 : ∀ K' : Act → World → Prop, (∀ a w, S w → (S w → wpAnyL P md ops Q S l fuel (listed.setIfInBounds j2 true) a w) → K' a w) → if Region.wanted o2 (yielded ops a.tmps) = true then Oper.wp P o2 a w K' Q else K' (a.put o2.dst undef) w)
  (h3 : ∀ K' : Act → World → Prop, (∀ a w, S w → (S w → wpAnyL P md ops Q S l fuel (listed.setIfInBounds j3 true) a w) → K' a w) → if Region.wanted o3 (yielded ops a.tmps) = true then Oper.wp P o3 a w K' Q else K' (a.put o3.dst undef) w) :
  wpAnyL P md ops Q S l (fuel + 1) listed a w :=
 ⟨fun h0 => (by rw [hr] at h0; cases h0), (by
  rw [hr]
  intro i hi
  have hi2 : i = j1 ∨ i = j2 ∨ i = j3 := by simpa using hi
  rcases hi2 with rfl | rfl | rfl
  ·exact wpOp_step ho1 fun K' hK => h1 K' fun a w hS hW => hK a w ⟨fun _ => hS, hW hS⟩
  ·exact wpOp_step ho2 fun K' hK => h2 K' fun a w hS hW => hK a w ⟨fun _ => hS, hW hS⟩
  ·exact wpOp_step ho3 fun K' hK => h3 K' fun a w hS hW => hK a w ⟨fun _ => hS, hW hS⟩)⟩
end
theorem infoEff : (Tryz.prog.info? 50).map (fun i => (i.zero, i.size, i.bytes)) = some (some (.int .u8 0), 1, 1) := by kernel_rfl
theorem infoInt : (Tryz.prog.info? 3).map (fun i => (i.zero, i.size, i.bytes)) = some (some (.int .i64 0), 1, 8) := by kernel_rfl
theorem made_one (z : Value) (n : Nat) : madeCells #[z] n = (List.replicate n z).toArray := by
 have := toList_madeCells_one z n
 rw [← this]
theorem mkD {n : Nat} (h : n ≤ 1000000) (W : World) : (Instr.makeSlice 46 (.int .i64 (n : Int)) (.int .i64 (n : Int))).run Tryz.prog W = .ok (.slice (some ⟨W.heap.size, 0, none⟩) n n) (W.alloc (.cells (doesV (List.replicate n 0)) 50 (0, 0))) := by
 obtain ⟨i0, hi0, hz0, hz1, hz2⟩ := info_parts infoEff
 have := run_make W (P := Tryz.prog) 46 50 i0 _ Tryz.underlying46 hi0 hz0 .i64 .i64 (n : Int) (n : Int) (by omega) (by omega) (by rw [hz2]; omega) (by omega)
 rw [this, hz1]
 simp only [Int.toNat_natCast, Nat.mul_one]
 rw [show (Value.int .u8 0).cells = #[Value.int .u8 0] from rfl, made_one, show doesV (List.replicate n 0) = (List.replicate n (Value.int .u8 0)).toArray by simp [doesV]]
theorem mkT {n : Nat} (h : n ≤ 1000000) (W : World) : (Instr.makeSlice 56 (.int .i64 (n : Int)) (.int .i64 (n : Int))).run Tryz.prog W = .ok (.slice (some ⟨W.heap.size, 0, none⟩) n n) (W.alloc (.cells (statV (List.replicate n 0)) 3 (0, 0))) := by
 obtain ⟨i0, hi0, hz0, hz1, hz2⟩ := info_parts infoInt
 have := run_make W (P := Tryz.prog) 56 3 i0 _ Tryz.underlying56 hi0 hz0 .i64 .i64 (n : Int) (n : Int) (by omega) (by omega) (by rw [hz2]; omega) (by omega)
 rw [this, hz1]
 simp only [Int.toNat_natCast, Nat.mul_one]
 rw [show (Value.int .i64 0).cells = #[Value.int .i64 0] from rfl, made_one, show statV (List.replicate n 0) = (List.replicate n (Value.int .i64 0)).toArray by simp [statV]]
theorem efNew_is {B Kb Rb Fb Sb Ke Db Tb N : Nat} {p : Pr} {W : World} (hsc : ScIs B Kb Rb Fb Sb p W) (hk : W.heap[Ke]? = some (.cells (efCells p Kb Db Tb false) 100 (0, 0)))
  (hd : W.heap[Db]? = some (.cells (doesV (List.replicate p.fs.length 0)) 50 (0, 0))) (ht : W.heap[Tb]? = some (.cells (statV (List.replicate p.fs.length 0)) 3 (0, 0))) (hN : B ≤ N) (h1 : N ≤ Ke) (h2 : N ≤ Db) (h3 : N ≤ Tb) :
  EfIs B Kb Rb Fb Sb Ke Db Tb p (efNew p) W := by
 obtain ⟨e1, c1, r1⟩ := hsc.recs.block
 obtain ⟨e2, c2, r2⟩ := hsc.funs.block
 obtain ⟨e3, c3, r3⟩ := hsc.shs.block
 have rk := hsc.k
 refine ⟨hsc, hk, hd, ht, by simp [efNew], by simp [efNew], efNew_good p, efNew_inv p, efNew_few p, fun k hh => ?_, ?_, ?_, ?_⟩
 ·rcases hh with rfl | rfl | rfl
  ·exact ⟨fun e => by rw [e, rk] at hk; simp at hk, fun e => by rw [e, r1] at hk; simp at hk, fun e => by rw [e, r2] at hk; simp at hk, fun e => by rw [e, r3] at hk; simp at hk, by omega⟩
  ·exact ⟨fun e => by rw [e, rk] at hd; simp at hd, fun e => by rw [e, r1] at hd; simp at hd, fun e => by rw [e, r2] at hd; simp at hd, fun e => by rw [e, r3] at hd; simp at hd, by omega⟩
  ·exact ⟨fun e => by rw [e, rk] at ht; simp at ht, fun e => by rw [e, r1] at ht; simp at ht, fun e => by rw [e, r2] at ht; simp at ht, fun e => by rw [e, r3] at ht; simp at ht, by omega⟩
 ·intro e; rw [e, hd] at hk; simp at hk
 ·intro e; rw [e, ht] at hk; simp at hk
 ·intro e; rw [e, ht] at hd; simp at hd
abbrev PrS (X : Nat) (p : Pr) (W : World) : Prop := W.cell? ⟨X, 0, none⟩ = some (.slice p.rd.a p.rs.length p.rd.c) ∧ W.cell? ⟨X, 1, none⟩ = some (.slice p.sd.a p.ss.length p.sd.c) ∧ W.cell? ⟨X, 2, none⟩ = some (.slice p.fd.a p.fs.length p.fd.c) ∧ W.cell? ⟨X, 3, none⟩ = some (.slice p.td.a p.ts.length p.td.c)
theorem PrS.of {X : Nat} {p : Pr} {W : World} (h : W.heap[X]? = some (prObj p)) : PrS X p W := ⟨cell_at h 0, cell_at h 1, cell_at h 2, cell_at h 3⟩
set_option maxHeartbeats 4000000 in
set_option maxRecDepth 100000 in
theorem look_bad (B : Nat) (p : Pr) (w : World) (G : GlB B w) (N : NumG B w) (hI : PrIn w B p) (hT : (typesCheck p).2 ≠ 0) :
  Calls Tryz.prog 59 #[p.val] w fun e w' => e = .returned (.tuple #[.pointer none, .int .i64 1]) ∧ Below w.heap.size w w' := by
 obtain ⟨X, hX⟩ : ∃ X, w.heap.size = X := ⟨_, rfl⟩
 obtain ⟨w1, hw1⟩ : ∃ w1, w.alloc (prObj p) = w1 := ⟨_, rfl⟩
 have hb1 : Below w.heap.size w w1 := by rw [← hw1]; exact (Below.refl _ _).alloc (Nat.le_refl _) _
 have x1 : w1.heap[X]? = some (prObj p) := by rw [← hw1, ← hX]; exact heap_alloc_new w _
 have C := Lib.hid (typesCheck_any B p w1 (G.below (hb1.mono G.le)) (N.keep (hb1.mono G.le)) (hI.keep (hb1.mono G.le) (Nat.le_refl B)))
 have HB1 := Lib.hid hb1
 have HN := Lib.hid (And.intro hX hw1)
 obtain ⟨q0, q1, q2, q3⟩ := PrS.of x1
 rw [← hw1, ← hX] at q0 q1 q2 q3
 generalize typesCheck p = F at *
 obtain ⟨a, b⟩ := F
 dsimp only at hT C
 have hb : (b != 0) = true := by simpa using hT
 clear hX hw1 hb1 x1 G N hI hT
 go_enter Tryz.func59, Tryz.ntmps59
 go_wp2_with fail
 simp only [HN.out.1, HN.out.2]
 refine C.out.mono ?_
 rintro e w2 ⟨rfl, hb2⟩
 have HB2 := Lib.hid (HB1.out.trans (hb2.mono HB1.out.size))
 clear hb2 q0 q1 q2 q3 C
 go_wp2_with fail
 refine bodyPost_ret (v := .tuple #[.pointer none, .int .i64 1]) (by simp [results, Tryz.results59, go_sem]) rfl ?_
 exact ⟨rfl, HB2.out⟩
set_option maxHeartbeats 40000000 in
set_option maxRecDepth 100000 in
theorem look_ok (B : Nat) (p : Pr) (w : World) (G : GlB B w) (N : NumG B w) (hI : PrIn w B p) (hT : (typesCheck p).2 = 0) :
  Calls Tryz.prog 59 #[p.val] w fun e w' => ∃ Kb Rb Fb Sb Ke Db Tb s, e = .returned (.tuple #[.pointer (some ⟨Ke, 0, none⟩), .int .i64 0]) ∧ EvL p 0 (efNew p) s ∧ EfIs B Kb Rb Fb Sb Ke Db Tb p s w' ∧ (w.heap.size ≤ Ke ∧ w.heap.size ≤ Db ∧ w.heap.size ≤ Tb) ∧ Below w.heap.size w w' := by
 have KN := knP_of hT
 have hpl : p.fs.length ≤ 1000000 := by
  obtain ⟨-, ⟨a, ha⟩, -⟩ := types_ok hT
  have h1 := (places_good ha).1
  unfold placesOf at h1
  omega
 obtain ⟨X, hX⟩ : ∃ X, w.heap.size = X := ⟨_, rfl⟩
 obtain ⟨w0, hw0⟩ : ∃ w0, w.alloc (prObj p) = w0 := ⟨_, rfl⟩
 have hb0 : Below w.heap.size w w0 := by rw [← hw0]; exact (Below.refl _ _).alloc (Nat.le_refl _) _
 have x0 : w0.heap[X]? = some (prObj p) := by rw [← hw0, ← hX]; exact heap_alloc_new w _
 have CT := Lib.hid (typesCheck_any B p w0 (G.below (hb0.mono G.le)) (N.keep (hb0.mono G.le)) (hI.keep (hb0.mono G.le) (Nat.le_refl B)))
 have HB0 := Lib.hid hb0
 have HX0 := Lib.hid x0
 have HN := Lib.hid (And.intro hX hw0)
 have HG := Lib.hid G.le
 have HI := Lib.hid hI
 have HKN := Lib.hid KN
 obtain ⟨q0, q1, q2, q3⟩ := PrS.of x0
 rw [← hw0, ← hX] at q0 q1 q2 q3
 generalize typesCheck p = F at *
 obtain ⟨a, b⟩ := F
 dsimp only at hT CT
 subst hT
 clear hX hw0 hb0 x0 G N hI KN
 go_enter Tryz.func59, Tryz.ntmps59
 go_wp2_with fail
 simp only [HN.out.1, HN.out.2]
 refine CT.out.mono ?_
 rintro e w1 ⟨rfl, hb1⟩
 have HW1 : Hid (Below w.heap.size w w1) := Lib.hid (HB0.out.trans (hb1.mono HB0.out.size))
 have x1 := (hb1.block X (blk_lt HX0.out)).trans HX0.out
 have HS : Hid (PrS X p w1.drew) := Lib.hid (PrS.of x1)
 have HSk : Hid (∀ W, Below w1.heap.size w1 W → PrS X p W) := Lib.hid fun W hb => PrS.of ((hb.block X (blk_lt x1)).trans x1)
 have HBd : Hid (Below w1.heap.size w1 w1.drew) := Lib.hid (Below.refl _ _).drew
 have HC : Hid (∀ W, Below w1.heap.size w1 W → Calls Tryz.prog 78 #[p.val] W fun e w' => ∃ Kb Rb Fb Sb, e = .returned (.pointer (some ⟨Kb, 0, none⟩)) ∧ ScIs B Kb Rb Fb Sb p w' ∧ Kb < w'.heap.size ∧ Below W.heap.size W w') :=
  Lib.hid fun W hb => scopeOf_any B p W (HI.out.keep ((HW1.out.trans (hb.mono HW1.out.size)).mono HG.out) (Nat.le_refl B)) (Nat.le_trans HG.out (Nat.le_trans HW1.out.size hb.size))
 clear hb1 q0 q1 q2 q3 CT HB0 HX0
 have hmD := mkD hpl
 have hmT := mkT hpl
 go_upto_region 4 with fail
 go_cut [6] from 15 (fun s6 wx => ∃ Kb Rb Fb Sb Ke Db Tb, s6 = .pointer (some ⟨Ke, 0, none⟩) ∧ Hid (EfIs B Kb Rb Fb Sb Ke Db Tb p (efNew p) wx) ∧ Hid (w1.heap.size ≤ Ke ∧ w1.heap.size ≤ Db ∧ w1.heap.size ≤ Tb) ∧ Hid (Below w1.heap.size w1 wx))
 case first =>
  go_wp2_with fail
  refine wp_region_L (l := 13) (S := (PrS X p)) (by kernel_rfl) ?_ (fun hHeld => ?_)
  ·((try dsimp only); (exact HS.out))
  refine wpAnyL_take (i := 0) (oi := _) (v := ?v1) rfl (by kernel_rfl) (fun _ _ _ h => h) (by assumption) (Or.inl ⟨by kernel_rfl, ?y1⟩) ?r1
  case y1 => (intro w hSw; (try dsimp only at hSw); go_simp; all_goals with_reducible rfl)
  try simp only [sl1, sl2, sl3, Act.put, sl4, sl5, sl6]
  refine wpAnyL_take (i := 1) (oi := _) (v := ?v2) rfl (by kernel_rfl) (fun _ _ _ h => h) (by assumption) (Or.inl ⟨by kernel_rfl, ?y2⟩) ?r2
  case y2 => (intro w hSw; (try dsimp only at hSw); go_simp; all_goals with_reducible rfl)
  try simp only [sl1, sl2, sl3, Act.put, sl4, sl5, sl6]
  refine wpAnyL_take (i := 3) (oi := _) (v := ?v3) rfl (by kernel_rfl) (fun _ _ _ h => h) (by assumption) (Or.inl ⟨by kernel_rfl, ?y3⟩) ?r3
  case y3 => (intro w hSw; (try dsimp only at hSw); go_simp; all_goals with_reducible rfl)
  try simp only [sl1, sl2, sl3, Act.put, sl4, sl5, sl6]
  refine wpAnyL_take (i := 4) (oi := _) (v := ?v4) rfl (by kernel_rfl) (fun _ _ _ h => h) (by assumption) (Or.inl ⟨by kernel_rfl, ?y4⟩) ?r4
  case y4 => (intro w hSw; (try dsimp only at hSw); go_simp; all_goals with_reducible rfl)
  try simp only [sl1, sl2, sl3, Act.put, sl4, sl5, sl6]
  refine wpAnyL_take (i := 5) (oi := _) (v := ?v5) rfl (by kernel_rfl) (fun _ _ _ h => h) (by assumption) (Or.inl ⟨by kernel_rfl, ?y5⟩) ?r5
  case y5 => (intro w hSw; (try dsimp only at hSw); go_simp; all_goals with_reducible rfl)
  try simp only [sl1, sl2, sl3, Act.put, sl4, sl5, sl6]
  refine wpAnyL_take (i := 7) (oi := _) (v := ?v6) rfl (by kernel_rfl) (fun _ _ _ h => h) (by assumption) (Or.inl ⟨by kernel_rfl, ?y6⟩) ?r6
  case y6 => (intro w hSw; (try dsimp only at hSw); go_simp; all_goals with_reducible rfl)
  try simp only [sl1, sl2, sl3, Act.put, sl4, sl5, sl6]
  refine wpAnyL_take (i := 8) (oi := _) (v := ?v7) rfl (by kernel_rfl) (fun _ _ _ h => h) (by assumption) (Or.inl ⟨by kernel_rfl, ?y7⟩) ?r7
  case y7 => (intro w hSw; (try dsimp only at hSw); go_simp; all_goals with_reducible rfl)
  try simp only [sl1, sl2, sl3, Act.put, sl4, sl5, sl6]
  refine wpAnyL_take (i := 9) (oi := _) (v := ?v8) rfl (by kernel_rfl) (fun _ _ _ h => h) (by assumption) (Or.inl ⟨by kernel_rfl, ?y8⟩) ?r8
  case y8 => (intro w hSw; (try dsimp only at hSw); go_simp; all_goals with_reducible rfl)
  try simp only [sl1, sl2, sl3, Act.put, sl4, sl5, sl6]
  clear HS
  obtain ⟨v0, hv0⟩ : ∃ v0, w1.drew = v0 := ⟨_, rfl⟩
  rw [hv0] at HBd ⊢
  have HBv0 := HBd
  clear HBd
  refine wpAnyL_three (j1 := 2) (j2 := 6) (j3 := 10) (o1 := _) (o2 := _) (o3 := _) (by kernel_rfl) rfl rfl rfl (fun K hK => ?_) (fun K hK => ?_) (fun K hK => ?_)
  ·
   go_simp
   go_at_call 78
   refine (HC.out v0 HBv0.out).mono ?_
   rintro e v1 ⟨Kb, Rb, Fb, Sb, rfl, hsc, -, hbj⟩
   have HBv1 : Hid (Below w1.heap.size w1 v1) := Lib.hid (HBv0.out.trans (hbj.mono HBv0.out.size))
   have HSc : Hid (∀ W, Below v1.heap.size v1 W → ScIs B Kb Rb Fb Sb p W) := Lib.hid fun W hb => hsc.below hb
   clear hsc
   clear hbj
   refine hK _ _ ?_ (fun hHeld => ?_)
   ·exact HSk.out _ HBv1.out
   clear hK K
   try simp only [sl1, sl2, sl3, Act.put, sl4, sl5, sl6]
   refine wpAnyL_two (j1 := 6) (j2 := 10) (o1 := _) (o2 := _) (by kernel_rfl) rfl rfl (fun K hK => ?_) (fun K hK => ?_)
   ·
    go_simp
    obtain ⟨Db, hDb⟩ : ∃ Db, v1.heap.size = Db := ⟨_, rfl⟩
    obtain ⟨v2, hvj⟩ : ∃ u, v1.alloc (.cells (doesV (List.replicate p.fs.length 0)) 50 (0, 0)) = u := ⟨_, rfl⟩
    have hbj : Below v1.heap.size v1 v2 := by rw [← hvj]; exact (Below.refl _ _).alloc (Nat.le_refl _) _
    have HBv2 : Hid (Below w1.heap.size w1 v2) := Lib.hid (HBv1.out.trans (hbj.mono HBv1.out.size))
    have xj : v2.heap[Db]? = some (.cells (doesV (List.replicate p.fs.length 0)) 50 (0, 0)) := by rw [← hvj, ← hDb]; exact heap_alloc_new _ _
    have HDl : Hid (w1.heap.size ≤ Db) := Lib.hid (by rw [← hDb]; exact HBv1.out.size)
    have HDb : Hid (∀ W, Below v2.heap.size v2 W → W.heap[Db]? = some (.cells (doesV (List.replicate p.fs.length 0)) 50 (0, 0))) := Lib.hid fun W hb => (hb.block Db (blk_lt xj)).trans xj
    rw [hDb, hvj]
    clear hDb hvj xj
    have HSc' : Hid (∀ W, Below v2.heap.size v2 W → ScIs B Kb Rb Fb Sb p W) := Lib.hid fun W hb => HSc.out _ (hbj.trans (hb.mono hbj.size))
    clear HSc
    have HSc := HSc'
    clear HSc'
    clear hbj
    refine hK _ _ ?_ (fun hHeld => ?_)
    ·exact HSk.out _ HBv2.out
    clear hK K
    try simp only [sl1, sl2, sl3, Act.put, sl4, sl5, sl6]
    refine wpAnyL_step (j := 10) (o := _) (by kernel_rfl) rfl (fun K hK => ?_)
    go_simp
    obtain ⟨Tb, hTb⟩ : ∃ Tb, v2.heap.size = Tb := ⟨_, rfl⟩
    obtain ⟨v3, hvj⟩ : ∃ u, v2.alloc (.cells (statV (List.replicate p.fs.length 0)) 3 (0, 0)) = u := ⟨_, rfl⟩
    have hbj : Below v2.heap.size v2 v3 := by rw [← hvj]; exact (Below.refl _ _).alloc (Nat.le_refl _) _
    have HBv3 : Hid (Below w1.heap.size w1 v3) := Lib.hid (HBv2.out.trans (hbj.mono HBv2.out.size))
    have xj : v3.heap[Tb]? = some (.cells (statV (List.replicate p.fs.length 0)) 3 (0, 0)) := by rw [← hvj, ← hTb]; exact heap_alloc_new _ _
    have HTl : Hid (w1.heap.size ≤ Tb) := Lib.hid (by rw [← hTb]; exact HBv2.out.size)
    have HTb : Hid (∀ W, Below v3.heap.size v3 W → W.heap[Tb]? = some (.cells (statV (List.replicate p.fs.length 0)) 3 (0, 0))) := Lib.hid fun W hb => (hb.block Tb (blk_lt xj)).trans xj
    rw [hTb, hvj]
    clear hTb hvj xj
    have HSc' : Hid (∀ W, Below v3.heap.size v3 W → ScIs B Kb Rb Fb Sb p W) := Lib.hid fun W hb => HSc.out _ (hbj.trans (hb.mono hbj.size))
    clear HSc
    have HSc := HSc'
    clear HSc'
    have HDb' : Hid (∀ W, Below v3.heap.size v3 W → W.heap[Db]? = some (.cells (doesV (List.replicate p.fs.length 0)) 50 (0, 0))) := Lib.hid fun W hb => HDb.out _ (hbj.trans (hb.mono hbj.size))
    clear HDb
    have HDb := HDb'
    clear HDb'
    clear hbj
    refine hK _ _ ?_ (fun hHeld => ?_)
    ·exact HSk.out _ HBv3.out
    clear hK K
    try simp only [sl1, sl2, sl3, Act.put, sl4, sl5, sl6]
    refine wpAnyL_step (j := 11) (o := _) (by kernel_rfl) rfl (fun K hK => ?_)
    go_simp
    refine hK _ _ ?_ (fun hHeld => ?_)
    ·exact HSk.out _ HBv3.out
    clear hK K
    try simp only [sl1, sl2, sl3, Act.put, sl4, sl5, sl6]
    refine wpAnyL_step (j := 12) (o := _) (by kernel_rfl) rfl (fun K hK => ?_)
    go_simp
    obtain ⟨Ke, hKe⟩ : ∃ Ke, v3.heap.size = Ke := ⟨_, rfl⟩
    obtain ⟨v4, hv4⟩ : ∃ u, v3.alloc (.cells (efCells p Kb Db Tb false) 100 (0, 0)) = u := ⟨_, rfl⟩
    have hb4 : Below v3.heap.size v3 v4 := by rw [← hv4]; exact (Below.refl _ _).alloc (Nat.le_refl _) _
    have x4 : v4.heap[Ke]? = some (.cells (efCells p Kb Db Tb false) 100 (0, 0)) := by rw [← hv4, ← hKe]; exact heap_alloc_new _ _
    have HKl : Hid (w1.heap.size ≤ Ke) := Lib.hid (by rw [← hKe]; exact HBv3.out.size)
    have HB4 : Hid (Below w1.heap.size w1 v4) := Lib.hid (HBv3.out.trans (hb4.mono HBv3.out.size))
    have HE4 : Hid (EfIs B Kb Rb Fb Sb Ke Db Tb p (efNew p) v4) := Lib.hid (efNew_is (N := w1.heap.size) (HSc.out _ hb4) x4 (HDb.out _ hb4) (HTb.out _ hb4) (Nat.le_trans HG.out HW1.out.size) HKl.out HDl.out HTl.out)
    rw [hKe, hv4]
    clear hKe hv4 hb4 x4 HSc HDb HTb
    refine hK _ _ ?_ (fun hHeld => ?_)
    ·exact HSk.out _ HB4.out
    clear hK K
    try simp only [sl1, sl2, sl3, Act.put, sl4, sl5, sl6]
    refine wpAnyL_last (j := 13) (o := _) (by kernel_rfl) rfl (by rfl) (by kernel_rfl) (fun K hK => ?_)
    go_simp
    (refine hK _ _ ?_; clear hK K)
    try simp only [sl1, sl2, sl3, Act.put, sl4, sl5, sl6]
    go_wp2_with fail
    go_meet
    exact ⟨Kb, Rb, Fb, Sb, Ke, Db, Tb, rfl, HE4, Lib.hid ⟨HKl.out, HDl.out, HTl.out⟩, HB4⟩
   ·
    go_simp
    obtain ⟨Tb, hTb⟩ : ∃ Tb, v1.heap.size = Tb := ⟨_, rfl⟩
    obtain ⟨v2, hvj⟩ : ∃ u, v1.alloc (.cells (statV (List.replicate p.fs.length 0)) 3 (0, 0)) = u := ⟨_, rfl⟩
    have hbj : Below v1.heap.size v1 v2 := by rw [← hvj]; exact (Below.refl _ _).alloc (Nat.le_refl _) _
    have HBv2 : Hid (Below w1.heap.size w1 v2) := Lib.hid (HBv1.out.trans (hbj.mono HBv1.out.size))
    have xj : v2.heap[Tb]? = some (.cells (statV (List.replicate p.fs.length 0)) 3 (0, 0)) := by rw [← hvj, ← hTb]; exact heap_alloc_new _ _
    have HTl : Hid (w1.heap.size ≤ Tb) := Lib.hid (by rw [← hTb]; exact HBv1.out.size)
    have HTb : Hid (∀ W, Below v2.heap.size v2 W → W.heap[Tb]? = some (.cells (statV (List.replicate p.fs.length 0)) 3 (0, 0))) := Lib.hid fun W hb => (hb.block Tb (blk_lt xj)).trans xj
    rw [hTb, hvj]
    clear hTb hvj xj
    have HSc' : Hid (∀ W, Below v2.heap.size v2 W → ScIs B Kb Rb Fb Sb p W) := Lib.hid fun W hb => HSc.out _ (hbj.trans (hb.mono hbj.size))
    clear HSc
    have HSc := HSc'
    clear HSc'
    clear hbj
    refine hK _ _ ?_ (fun hHeld => ?_)
    ·exact HSk.out _ HBv2.out
    clear hK K
    try simp only [sl1, sl2, sl3, Act.put, sl4, sl5, sl6]
    refine wpAnyL_step (j := 6) (o := _) (by kernel_rfl) rfl (fun K hK => ?_)
    go_simp
    obtain ⟨Db, hDb⟩ : ∃ Db, v2.heap.size = Db := ⟨_, rfl⟩
    obtain ⟨v3, hvj⟩ : ∃ u, v2.alloc (.cells (doesV (List.replicate p.fs.length 0)) 50 (0, 0)) = u := ⟨_, rfl⟩
    have hbj : Below v2.heap.size v2 v3 := by rw [← hvj]; exact (Below.refl _ _).alloc (Nat.le_refl _) _
    have HBv3 : Hid (Below w1.heap.size w1 v3) := Lib.hid (HBv2.out.trans (hbj.mono HBv2.out.size))
    have xj : v3.heap[Db]? = some (.cells (doesV (List.replicate p.fs.length 0)) 50 (0, 0)) := by rw [← hvj, ← hDb]; exact heap_alloc_new _ _
    have HDl : Hid (w1.heap.size ≤ Db) := Lib.hid (by rw [← hDb]; exact HBv2.out.size)
    have HDb : Hid (∀ W, Below v3.heap.size v3 W → W.heap[Db]? = some (.cells (doesV (List.replicate p.fs.length 0)) 50 (0, 0))) := Lib.hid fun W hb => (hb.block Db (blk_lt xj)).trans xj
    rw [hDb, hvj]
    clear hDb hvj xj
    have HSc' : Hid (∀ W, Below v3.heap.size v3 W → ScIs B Kb Rb Fb Sb p W) := Lib.hid fun W hb => HSc.out _ (hbj.trans (hb.mono hbj.size))
    clear HSc
    have HSc := HSc'
    clear HSc'
    have HTb' : Hid (∀ W, Below v3.heap.size v3 W → W.heap[Tb]? = some (.cells (statV (List.replicate p.fs.length 0)) 3 (0, 0))) := Lib.hid fun W hb => HTb.out _ (hbj.trans (hb.mono hbj.size))
    clear HTb
    have HTb := HTb'
    clear HTb'
    clear hbj
    refine hK _ _ ?_ (fun hHeld => ?_)
    ·exact HSk.out _ HBv3.out
    clear hK K
    try simp only [sl1, sl2, sl3, Act.put, sl4, sl5, sl6]
    refine wpAnyL_step (j := 11) (o := _) (by kernel_rfl) rfl (fun K hK => ?_)
    go_simp
    refine hK _ _ ?_ (fun hHeld => ?_)
    ·exact HSk.out _ HBv3.out
    clear hK K
    try simp only [sl1, sl2, sl3, Act.put, sl4, sl5, sl6]
    refine wpAnyL_step (j := 12) (o := _) (by kernel_rfl) rfl (fun K hK => ?_)
    go_simp
    obtain ⟨Ke, hKe⟩ : ∃ Ke, v3.heap.size = Ke := ⟨_, rfl⟩
    obtain ⟨v4, hv4⟩ : ∃ u, v3.alloc (.cells (efCells p Kb Db Tb false) 100 (0, 0)) = u := ⟨_, rfl⟩
    have hb4 : Below v3.heap.size v3 v4 := by rw [← hv4]; exact (Below.refl _ _).alloc (Nat.le_refl _) _
    have x4 : v4.heap[Ke]? = some (.cells (efCells p Kb Db Tb false) 100 (0, 0)) := by rw [← hv4, ← hKe]; exact heap_alloc_new _ _
    have HKl : Hid (w1.heap.size ≤ Ke) := Lib.hid (by rw [← hKe]; exact HBv3.out.size)
    have HB4 : Hid (Below w1.heap.size w1 v4) := Lib.hid (HBv3.out.trans (hb4.mono HBv3.out.size))
    have HE4 : Hid (EfIs B Kb Rb Fb Sb Ke Db Tb p (efNew p) v4) := Lib.hid (efNew_is (N := w1.heap.size) (HSc.out _ hb4) x4 (HDb.out _ hb4) (HTb.out _ hb4) (Nat.le_trans HG.out HW1.out.size) HKl.out HDl.out HTl.out)
    rw [hKe, hv4]
    clear hKe hv4 hb4 x4 HSc HDb HTb
    refine hK _ _ ?_ (fun hHeld => ?_)
    ·exact HSk.out _ HB4.out
    clear hK K
    try simp only [sl1, sl2, sl3, Act.put, sl4, sl5, sl6]
    refine wpAnyL_last (j := 13) (o := _) (by kernel_rfl) rfl (by rfl) (by kernel_rfl) (fun K hK => ?_)
    go_simp
    (refine hK _ _ ?_; clear hK K)
    try simp only [sl1, sl2, sl3, Act.put, sl4, sl5, sl6]
    go_wp2_with fail
    go_meet
    exact ⟨Kb, Rb, Fb, Sb, Ke, Db, Tb, rfl, HE4, Lib.hid ⟨HKl.out, HDl.out, HTl.out⟩, HB4⟩
  ·
   go_simp
   obtain ⟨Db, hDb⟩ : ∃ Db, v0.heap.size = Db := ⟨_, rfl⟩
   obtain ⟨v1, hvj⟩ : ∃ u, v0.alloc (.cells (doesV (List.replicate p.fs.length 0)) 50 (0, 0)) = u := ⟨_, rfl⟩
   have hbj : Below v0.heap.size v0 v1 := by rw [← hvj]; exact (Below.refl _ _).alloc (Nat.le_refl _) _
   have HBv1 : Hid (Below w1.heap.size w1 v1) := Lib.hid (HBv0.out.trans (hbj.mono HBv0.out.size))
   have xj : v1.heap[Db]? = some (.cells (doesV (List.replicate p.fs.length 0)) 50 (0, 0)) := by rw [← hvj, ← hDb]; exact heap_alloc_new _ _
   have HDl : Hid (w1.heap.size ≤ Db) := Lib.hid (by rw [← hDb]; exact HBv0.out.size)
   have HDb : Hid (∀ W, Below v1.heap.size v1 W → W.heap[Db]? = some (.cells (doesV (List.replicate p.fs.length 0)) 50 (0, 0))) := Lib.hid fun W hb => (hb.block Db (blk_lt xj)).trans xj
   rw [hDb, hvj]
   clear hDb hvj xj
   clear hbj
   refine hK _ _ ?_ (fun hHeld => ?_)
   ·exact HSk.out _ HBv1.out
   clear hK K
   try simp only [sl1, sl2, sl3, Act.put, sl4, sl5, sl6]
   refine wpAnyL_two (j1 := 2) (j2 := 10) (o1 := _) (o2 := _) (by kernel_rfl) rfl rfl (fun K hK => ?_) (fun K hK => ?_)
   ·
    go_simp
    go_at_call 78
    refine (HC.out v1 HBv1.out).mono ?_
    rintro e v2 ⟨Kb, Rb, Fb, Sb, rfl, hsc, -, hbj⟩
    have HBv2 : Hid (Below w1.heap.size w1 v2) := Lib.hid (HBv1.out.trans (hbj.mono HBv1.out.size))
    have HSc : Hid (∀ W, Below v2.heap.size v2 W → ScIs B Kb Rb Fb Sb p W) := Lib.hid fun W hb => hsc.below hb
    clear hsc
    have HDb' : Hid (∀ W, Below v2.heap.size v2 W → W.heap[Db]? = some (.cells (doesV (List.replicate p.fs.length 0)) 50 (0, 0))) := Lib.hid fun W hb => HDb.out _ (hbj.trans (hb.mono hbj.size))
    clear HDb
    have HDb := HDb'
    clear HDb'
    clear hbj
    refine hK _ _ ?_ (fun hHeld => ?_)
    ·exact HSk.out _ HBv2.out
    clear hK K
    try simp only [sl1, sl2, sl3, Act.put, sl4, sl5, sl6]
    refine wpAnyL_step (j := 10) (o := _) (by kernel_rfl) rfl (fun K hK => ?_)
    go_simp
    obtain ⟨Tb, hTb⟩ : ∃ Tb, v2.heap.size = Tb := ⟨_, rfl⟩
    obtain ⟨v3, hvj⟩ : ∃ u, v2.alloc (.cells (statV (List.replicate p.fs.length 0)) 3 (0, 0)) = u := ⟨_, rfl⟩
    have hbj : Below v2.heap.size v2 v3 := by rw [← hvj]; exact (Below.refl _ _).alloc (Nat.le_refl _) _
    have HBv3 : Hid (Below w1.heap.size w1 v3) := Lib.hid (HBv2.out.trans (hbj.mono HBv2.out.size))
    have xj : v3.heap[Tb]? = some (.cells (statV (List.replicate p.fs.length 0)) 3 (0, 0)) := by rw [← hvj, ← hTb]; exact heap_alloc_new _ _
    have HTl : Hid (w1.heap.size ≤ Tb) := Lib.hid (by rw [← hTb]; exact HBv2.out.size)
    have HTb : Hid (∀ W, Below v3.heap.size v3 W → W.heap[Tb]? = some (.cells (statV (List.replicate p.fs.length 0)) 3 (0, 0))) := Lib.hid fun W hb => (hb.block Tb (blk_lt xj)).trans xj
    rw [hTb, hvj]
    clear hTb hvj xj
    have HDb' : Hid (∀ W, Below v3.heap.size v3 W → W.heap[Db]? = some (.cells (doesV (List.replicate p.fs.length 0)) 50 (0, 0))) := Lib.hid fun W hb => HDb.out _ (hbj.trans (hb.mono hbj.size))
    clear HDb
    have HDb := HDb'
    clear HDb'
    have HSc' : Hid (∀ W, Below v3.heap.size v3 W → ScIs B Kb Rb Fb Sb p W) := Lib.hid fun W hb => HSc.out _ (hbj.trans (hb.mono hbj.size))
    clear HSc
    have HSc := HSc'
    clear HSc'
    clear hbj
    refine hK _ _ ?_ (fun hHeld => ?_)
    ·exact HSk.out _ HBv3.out
    clear hK K
    try simp only [sl1, sl2, sl3, Act.put, sl4, sl5, sl6]
    refine wpAnyL_step (j := 11) (o := _) (by kernel_rfl) rfl (fun K hK => ?_)
    go_simp
    refine hK _ _ ?_ (fun hHeld => ?_)
    ·exact HSk.out _ HBv3.out
    clear hK K
    try simp only [sl1, sl2, sl3, Act.put, sl4, sl5, sl6]
    refine wpAnyL_step (j := 12) (o := _) (by kernel_rfl) rfl (fun K hK => ?_)
    go_simp
    obtain ⟨Ke, hKe⟩ : ∃ Ke, v3.heap.size = Ke := ⟨_, rfl⟩
    obtain ⟨v4, hv4⟩ : ∃ u, v3.alloc (.cells (efCells p Kb Db Tb false) 100 (0, 0)) = u := ⟨_, rfl⟩
    have hb4 : Below v3.heap.size v3 v4 := by rw [← hv4]; exact (Below.refl _ _).alloc (Nat.le_refl _) _
    have x4 : v4.heap[Ke]? = some (.cells (efCells p Kb Db Tb false) 100 (0, 0)) := by rw [← hv4, ← hKe]; exact heap_alloc_new _ _
    have HKl : Hid (w1.heap.size ≤ Ke) := Lib.hid (by rw [← hKe]; exact HBv3.out.size)
    have HB4 : Hid (Below w1.heap.size w1 v4) := Lib.hid (HBv3.out.trans (hb4.mono HBv3.out.size))
    have HE4 : Hid (EfIs B Kb Rb Fb Sb Ke Db Tb p (efNew p) v4) := Lib.hid (efNew_is (N := w1.heap.size) (HSc.out _ hb4) x4 (HDb.out _ hb4) (HTb.out _ hb4) (Nat.le_trans HG.out HW1.out.size) HKl.out HDl.out HTl.out)
    rw [hKe, hv4]
    clear hKe hv4 hb4 x4 HSc HDb HTb
    refine hK _ _ ?_ (fun hHeld => ?_)
    ·exact HSk.out _ HB4.out
    clear hK K
    try simp only [sl1, sl2, sl3, Act.put, sl4, sl5, sl6]
    refine wpAnyL_last (j := 13) (o := _) (by kernel_rfl) rfl (by rfl) (by kernel_rfl) (fun K hK => ?_)
    go_simp
    (refine hK _ _ ?_; clear hK K)
    try simp only [sl1, sl2, sl3, Act.put, sl4, sl5, sl6]
    go_wp2_with fail
    go_meet
    exact ⟨Kb, Rb, Fb, Sb, Ke, Db, Tb, rfl, HE4, Lib.hid ⟨HKl.out, HDl.out, HTl.out⟩, HB4⟩
   ·
    go_simp
    obtain ⟨Tb, hTb⟩ : ∃ Tb, v1.heap.size = Tb := ⟨_, rfl⟩
    obtain ⟨v2, hvj⟩ : ∃ u, v1.alloc (.cells (statV (List.replicate p.fs.length 0)) 3 (0, 0)) = u := ⟨_, rfl⟩
    have hbj : Below v1.heap.size v1 v2 := by rw [← hvj]; exact (Below.refl _ _).alloc (Nat.le_refl _) _
    have HBv2 : Hid (Below w1.heap.size w1 v2) := Lib.hid (HBv1.out.trans (hbj.mono HBv1.out.size))
    have xj : v2.heap[Tb]? = some (.cells (statV (List.replicate p.fs.length 0)) 3 (0, 0)) := by rw [← hvj, ← hTb]; exact heap_alloc_new _ _
    have HTl : Hid (w1.heap.size ≤ Tb) := Lib.hid (by rw [← hTb]; exact HBv1.out.size)
    have HTb : Hid (∀ W, Below v2.heap.size v2 W → W.heap[Tb]? = some (.cells (statV (List.replicate p.fs.length 0)) 3 (0, 0))) := Lib.hid fun W hb => (hb.block Tb (blk_lt xj)).trans xj
    rw [hTb, hvj]
    clear hTb hvj xj
    have HDb' : Hid (∀ W, Below v2.heap.size v2 W → W.heap[Db]? = some (.cells (doesV (List.replicate p.fs.length 0)) 50 (0, 0))) := Lib.hid fun W hb => HDb.out _ (hbj.trans (hb.mono hbj.size))
    clear HDb
    have HDb := HDb'
    clear HDb'
    clear hbj
    refine hK _ _ ?_ (fun hHeld => ?_)
    ·exact HSk.out _ HBv2.out
    clear hK K
    try simp only [sl1, sl2, sl3, Act.put, sl4, sl5, sl6]
    refine wpAnyL_step (j := 2) (o := _) (by kernel_rfl) rfl (fun K hK => ?_)
    go_simp
    go_at_call 78
    refine (HC.out v2 HBv2.out).mono ?_
    rintro e v3 ⟨Kb, Rb, Fb, Sb, rfl, hsc, -, hbj⟩
    have HBv3 : Hid (Below w1.heap.size w1 v3) := Lib.hid (HBv2.out.trans (hbj.mono HBv2.out.size))
    have HSc : Hid (∀ W, Below v3.heap.size v3 W → ScIs B Kb Rb Fb Sb p W) := Lib.hid fun W hb => hsc.below hb
    clear hsc
    have HDb' : Hid (∀ W, Below v3.heap.size v3 W → W.heap[Db]? = some (.cells (doesV (List.replicate p.fs.length 0)) 50 (0, 0))) := Lib.hid fun W hb => HDb.out _ (hbj.trans (hb.mono hbj.size))
    clear HDb
    have HDb := HDb'
    clear HDb'
    have HTb' : Hid (∀ W, Below v3.heap.size v3 W → W.heap[Tb]? = some (.cells (statV (List.replicate p.fs.length 0)) 3 (0, 0))) := Lib.hid fun W hb => HTb.out _ (hbj.trans (hb.mono hbj.size))
    clear HTb
    have HTb := HTb'
    clear HTb'
    clear hbj
    refine hK _ _ ?_ (fun hHeld => ?_)
    ·exact HSk.out _ HBv3.out
    clear hK K
    try simp only [sl1, sl2, sl3, Act.put, sl4, sl5, sl6]
    refine wpAnyL_step (j := 11) (o := _) (by kernel_rfl) rfl (fun K hK => ?_)
    go_simp
    refine hK _ _ ?_ (fun hHeld => ?_)
    ·exact HSk.out _ HBv3.out
    clear hK K
    try simp only [sl1, sl2, sl3, Act.put, sl4, sl5, sl6]
    refine wpAnyL_step (j := 12) (o := _) (by kernel_rfl) rfl (fun K hK => ?_)
    go_simp
    obtain ⟨Ke, hKe⟩ : ∃ Ke, v3.heap.size = Ke := ⟨_, rfl⟩
    obtain ⟨v4, hv4⟩ : ∃ u, v3.alloc (.cells (efCells p Kb Db Tb false) 100 (0, 0)) = u := ⟨_, rfl⟩
    have hb4 : Below v3.heap.size v3 v4 := by rw [← hv4]; exact (Below.refl _ _).alloc (Nat.le_refl _) _
    have x4 : v4.heap[Ke]? = some (.cells (efCells p Kb Db Tb false) 100 (0, 0)) := by rw [← hv4, ← hKe]; exact heap_alloc_new _ _
    have HKl : Hid (w1.heap.size ≤ Ke) := Lib.hid (by rw [← hKe]; exact HBv3.out.size)
    have HB4 : Hid (Below w1.heap.size w1 v4) := Lib.hid (HBv3.out.trans (hb4.mono HBv3.out.size))
    have HE4 : Hid (EfIs B Kb Rb Fb Sb Ke Db Tb p (efNew p) v4) := Lib.hid (efNew_is (N := w1.heap.size) (HSc.out _ hb4) x4 (HDb.out _ hb4) (HTb.out _ hb4) (Nat.le_trans HG.out HW1.out.size) HKl.out HDl.out HTl.out)
    rw [hKe, hv4]
    clear hKe hv4 hb4 x4 HSc HDb HTb
    refine hK _ _ ?_ (fun hHeld => ?_)
    ·exact HSk.out _ HB4.out
    clear hK K
    try simp only [sl1, sl2, sl3, Act.put, sl4, sl5, sl6]
    refine wpAnyL_last (j := 13) (o := _) (by kernel_rfl) rfl (by rfl) (by kernel_rfl) (fun K hK => ?_)
    go_simp
    (refine hK _ _ ?_; clear hK K)
    try simp only [sl1, sl2, sl3, Act.put, sl4, sl5, sl6]
    go_wp2_with fail
    go_meet
    exact ⟨Kb, Rb, Fb, Sb, Ke, Db, Tb, rfl, HE4, Lib.hid ⟨HKl.out, HDl.out, HTl.out⟩, HB4⟩
  ·
   go_simp
   obtain ⟨Tb, hTb⟩ : ∃ Tb, v0.heap.size = Tb := ⟨_, rfl⟩
   obtain ⟨v1, hvj⟩ : ∃ u, v0.alloc (.cells (statV (List.replicate p.fs.length 0)) 3 (0, 0)) = u := ⟨_, rfl⟩
   have hbj : Below v0.heap.size v0 v1 := by rw [← hvj]; exact (Below.refl _ _).alloc (Nat.le_refl _) _
   have HBv1 : Hid (Below w1.heap.size w1 v1) := Lib.hid (HBv0.out.trans (hbj.mono HBv0.out.size))
   have xj : v1.heap[Tb]? = some (.cells (statV (List.replicate p.fs.length 0)) 3 (0, 0)) := by rw [← hvj, ← hTb]; exact heap_alloc_new _ _
   have HTl : Hid (w1.heap.size ≤ Tb) := Lib.hid (by rw [← hTb]; exact HBv0.out.size)
   have HTb : Hid (∀ W, Below v1.heap.size v1 W → W.heap[Tb]? = some (.cells (statV (List.replicate p.fs.length 0)) 3 (0, 0))) := Lib.hid fun W hb => (hb.block Tb (blk_lt xj)).trans xj
   rw [hTb, hvj]
   clear hTb hvj xj
   clear hbj
   refine hK _ _ ?_ (fun hHeld => ?_)
   ·exact HSk.out _ HBv1.out
   clear hK K
   try simp only [sl1, sl2, sl3, Act.put, sl4, sl5, sl6]
   refine wpAnyL_two (j1 := 2) (j2 := 6) (o1 := _) (o2 := _) (by kernel_rfl) rfl rfl (fun K hK => ?_) (fun K hK => ?_)
   ·
    go_simp
    go_at_call 78
    refine (HC.out v1 HBv1.out).mono ?_
    rintro e v2 ⟨Kb, Rb, Fb, Sb, rfl, hsc, -, hbj⟩
    have HBv2 : Hid (Below w1.heap.size w1 v2) := Lib.hid (HBv1.out.trans (hbj.mono HBv1.out.size))
    have HSc : Hid (∀ W, Below v2.heap.size v2 W → ScIs B Kb Rb Fb Sb p W) := Lib.hid fun W hb => hsc.below hb
    clear hsc
    have HTb' : Hid (∀ W, Below v2.heap.size v2 W → W.heap[Tb]? = some (.cells (statV (List.replicate p.fs.length 0)) 3 (0, 0))) := Lib.hid fun W hb => HTb.out _ (hbj.trans (hb.mono hbj.size))
    clear HTb
    have HTb := HTb'
    clear HTb'
    clear hbj
    refine hK _ _ ?_ (fun hHeld => ?_)
    ·exact HSk.out _ HBv2.out
    clear hK K
    try simp only [sl1, sl2, sl3, Act.put, sl4, sl5, sl6]
    refine wpAnyL_step (j := 6) (o := _) (by kernel_rfl) rfl (fun K hK => ?_)
    go_simp
    obtain ⟨Db, hDb⟩ : ∃ Db, v2.heap.size = Db := ⟨_, rfl⟩
    obtain ⟨v3, hvj⟩ : ∃ u, v2.alloc (.cells (doesV (List.replicate p.fs.length 0)) 50 (0, 0)) = u := ⟨_, rfl⟩
    have hbj : Below v2.heap.size v2 v3 := by rw [← hvj]; exact (Below.refl _ _).alloc (Nat.le_refl _) _
    have HBv3 : Hid (Below w1.heap.size w1 v3) := Lib.hid (HBv2.out.trans (hbj.mono HBv2.out.size))
    have xj : v3.heap[Db]? = some (.cells (doesV (List.replicate p.fs.length 0)) 50 (0, 0)) := by rw [← hvj, ← hDb]; exact heap_alloc_new _ _
    have HDl : Hid (w1.heap.size ≤ Db) := Lib.hid (by rw [← hDb]; exact HBv2.out.size)
    have HDb : Hid (∀ W, Below v3.heap.size v3 W → W.heap[Db]? = some (.cells (doesV (List.replicate p.fs.length 0)) 50 (0, 0))) := Lib.hid fun W hb => (hb.block Db (blk_lt xj)).trans xj
    rw [hDb, hvj]
    clear hDb hvj xj
    have HTb' : Hid (∀ W, Below v3.heap.size v3 W → W.heap[Tb]? = some (.cells (statV (List.replicate p.fs.length 0)) 3 (0, 0))) := Lib.hid fun W hb => HTb.out _ (hbj.trans (hb.mono hbj.size))
    clear HTb
    have HTb := HTb'
    clear HTb'
    have HSc' : Hid (∀ W, Below v3.heap.size v3 W → ScIs B Kb Rb Fb Sb p W) := Lib.hid fun W hb => HSc.out _ (hbj.trans (hb.mono hbj.size))
    clear HSc
    have HSc := HSc'
    clear HSc'
    clear hbj
    refine hK _ _ ?_ (fun hHeld => ?_)
    ·exact HSk.out _ HBv3.out
    clear hK K
    try simp only [sl1, sl2, sl3, Act.put, sl4, sl5, sl6]
    refine wpAnyL_step (j := 11) (o := _) (by kernel_rfl) rfl (fun K hK => ?_)
    go_simp
    refine hK _ _ ?_ (fun hHeld => ?_)
    ·exact HSk.out _ HBv3.out
    clear hK K
    try simp only [sl1, sl2, sl3, Act.put, sl4, sl5, sl6]
    refine wpAnyL_step (j := 12) (o := _) (by kernel_rfl) rfl (fun K hK => ?_)
    go_simp
    obtain ⟨Ke, hKe⟩ : ∃ Ke, v3.heap.size = Ke := ⟨_, rfl⟩
    obtain ⟨v4, hv4⟩ : ∃ u, v3.alloc (.cells (efCells p Kb Db Tb false) 100 (0, 0)) = u := ⟨_, rfl⟩
    have hb4 : Below v3.heap.size v3 v4 := by rw [← hv4]; exact (Below.refl _ _).alloc (Nat.le_refl _) _
    have x4 : v4.heap[Ke]? = some (.cells (efCells p Kb Db Tb false) 100 (0, 0)) := by rw [← hv4, ← hKe]; exact heap_alloc_new _ _
    have HKl : Hid (w1.heap.size ≤ Ke) := Lib.hid (by rw [← hKe]; exact HBv3.out.size)
    have HB4 : Hid (Below w1.heap.size w1 v4) := Lib.hid (HBv3.out.trans (hb4.mono HBv3.out.size))
    have HE4 : Hid (EfIs B Kb Rb Fb Sb Ke Db Tb p (efNew p) v4) := Lib.hid (efNew_is (N := w1.heap.size) (HSc.out _ hb4) x4 (HDb.out _ hb4) (HTb.out _ hb4) (Nat.le_trans HG.out HW1.out.size) HKl.out HDl.out HTl.out)
    rw [hKe, hv4]
    clear hKe hv4 hb4 x4 HSc HDb HTb
    refine hK _ _ ?_ (fun hHeld => ?_)
    ·exact HSk.out _ HB4.out
    clear hK K
    try simp only [sl1, sl2, sl3, Act.put, sl4, sl5, sl6]
    refine wpAnyL_last (j := 13) (o := _) (by kernel_rfl) rfl (by rfl) (by kernel_rfl) (fun K hK => ?_)
    go_simp
    (refine hK _ _ ?_; clear hK K)
    try simp only [sl1, sl2, sl3, Act.put, sl4, sl5, sl6]
    go_wp2_with fail
    go_meet
    exact ⟨Kb, Rb, Fb, Sb, Ke, Db, Tb, rfl, HE4, Lib.hid ⟨HKl.out, HDl.out, HTl.out⟩, HB4⟩
   ·
    go_simp
    obtain ⟨Db, hDb⟩ : ∃ Db, v1.heap.size = Db := ⟨_, rfl⟩
    obtain ⟨v2, hvj⟩ : ∃ u, v1.alloc (.cells (doesV (List.replicate p.fs.length 0)) 50 (0, 0)) = u := ⟨_, rfl⟩
    have hbj : Below v1.heap.size v1 v2 := by rw [← hvj]; exact (Below.refl _ _).alloc (Nat.le_refl _) _
    have HBv2 : Hid (Below w1.heap.size w1 v2) := Lib.hid (HBv1.out.trans (hbj.mono HBv1.out.size))
    have xj : v2.heap[Db]? = some (.cells (doesV (List.replicate p.fs.length 0)) 50 (0, 0)) := by rw [← hvj, ← hDb]; exact heap_alloc_new _ _
    have HDl : Hid (w1.heap.size ≤ Db) := Lib.hid (by rw [← hDb]; exact HBv1.out.size)
    have HDb : Hid (∀ W, Below v2.heap.size v2 W → W.heap[Db]? = some (.cells (doesV (List.replicate p.fs.length 0)) 50 (0, 0))) := Lib.hid fun W hb => (hb.block Db (blk_lt xj)).trans xj
    rw [hDb, hvj]
    clear hDb hvj xj
    have HTb' : Hid (∀ W, Below v2.heap.size v2 W → W.heap[Tb]? = some (.cells (statV (List.replicate p.fs.length 0)) 3 (0, 0))) := Lib.hid fun W hb => HTb.out _ (hbj.trans (hb.mono hbj.size))
    clear HTb
    have HTb := HTb'
    clear HTb'
    clear hbj
    refine hK _ _ ?_ (fun hHeld => ?_)
    ·exact HSk.out _ HBv2.out
    clear hK K
    try simp only [sl1, sl2, sl3, Act.put, sl4, sl5, sl6]
    refine wpAnyL_step (j := 2) (o := _) (by kernel_rfl) rfl (fun K hK => ?_)
    go_simp
    go_at_call 78
    refine (HC.out v2 HBv2.out).mono ?_
    rintro e v3 ⟨Kb, Rb, Fb, Sb, rfl, hsc, -, hbj⟩
    have HBv3 : Hid (Below w1.heap.size w1 v3) := Lib.hid (HBv2.out.trans (hbj.mono HBv2.out.size))
    have HSc : Hid (∀ W, Below v3.heap.size v3 W → ScIs B Kb Rb Fb Sb p W) := Lib.hid fun W hb => hsc.below hb
    clear hsc
    have HTb' : Hid (∀ W, Below v3.heap.size v3 W → W.heap[Tb]? = some (.cells (statV (List.replicate p.fs.length 0)) 3 (0, 0))) := Lib.hid fun W hb => HTb.out _ (hbj.trans (hb.mono hbj.size))
    clear HTb
    have HTb := HTb'
    clear HTb'
    have HDb' : Hid (∀ W, Below v3.heap.size v3 W → W.heap[Db]? = some (.cells (doesV (List.replicate p.fs.length 0)) 50 (0, 0))) := Lib.hid fun W hb => HDb.out _ (hbj.trans (hb.mono hbj.size))
    clear HDb
    have HDb := HDb'
    clear HDb'
    clear hbj
    refine hK _ _ ?_ (fun hHeld => ?_)
    ·exact HSk.out _ HBv3.out
    clear hK K
    try simp only [sl1, sl2, sl3, Act.put, sl4, sl5, sl6]
    refine wpAnyL_step (j := 11) (o := _) (by kernel_rfl) rfl (fun K hK => ?_)
    go_simp
    refine hK _ _ ?_ (fun hHeld => ?_)
    ·exact HSk.out _ HBv3.out
    clear hK K
    try simp only [sl1, sl2, sl3, Act.put, sl4, sl5, sl6]
    refine wpAnyL_step (j := 12) (o := _) (by kernel_rfl) rfl (fun K hK => ?_)
    go_simp
    obtain ⟨Ke, hKe⟩ : ∃ Ke, v3.heap.size = Ke := ⟨_, rfl⟩
    obtain ⟨v4, hv4⟩ : ∃ u, v3.alloc (.cells (efCells p Kb Db Tb false) 100 (0, 0)) = u := ⟨_, rfl⟩
    have hb4 : Below v3.heap.size v3 v4 := by rw [← hv4]; exact (Below.refl _ _).alloc (Nat.le_refl _) _
    have x4 : v4.heap[Ke]? = some (.cells (efCells p Kb Db Tb false) 100 (0, 0)) := by rw [← hv4, ← hKe]; exact heap_alloc_new _ _
    have HKl : Hid (w1.heap.size ≤ Ke) := Lib.hid (by rw [← hKe]; exact HBv3.out.size)
    have HB4 : Hid (Below w1.heap.size w1 v4) := Lib.hid (HBv3.out.trans (hb4.mono HBv3.out.size))
    have HE4 : Hid (EfIs B Kb Rb Fb Sb Ke Db Tb p (efNew p) v4) := Lib.hid (efNew_is (N := w1.heap.size) (HSc.out _ hb4) x4 (HDb.out _ hb4) (HTb.out _ hb4) (Nat.le_trans HG.out HW1.out.size) HKl.out HDl.out HTl.out)
    rw [hKe, hv4]
    clear hKe hv4 hb4 x4 HSc HDb HTb
    refine hK _ _ ?_ (fun hHeld => ?_)
    ·exact HSk.out _ HB4.out
    clear hK K
    try simp only [sl1, sl2, sl3, Act.put, sl4, sl5, sl6]
    refine wpAnyL_last (j := 13) (o := _) (by kernel_rfl) rfl (by rfl) (by kernel_rfl) (fun K hK => ?_)
    go_simp
    (refine hK _ _ ?_; clear hK K)
    try simp only [sl1, sl2, sl3, Act.put, sl4, sl5, sl6]
    go_wp2_with fail
    go_meet
    exact ⟨Kb, Rb, Fb, Sb, Ke, Db, Tb, rfl, HE4, Lib.hid ⟨HKl.out, HDl.out, HTl.out⟩, HB4⟩
 case rest =>
  obtain ⟨Kb, Rb, Fb, Sb, Ke, Db, Tb, rfl, HE4, HL4, HB4⟩ := hcut
  obtain ⟨-, -, q2, -⟩ := HSk.out _ HB4.out
  have HK0 : Hid (KpE Ke Db Tb wc wc) := Lib.hid (Kept.refl _ _)
  have HAc0 : Hid (∀ s2, EvL p 0 (efNew p) s2 → EvL p 0 (efNew p) s2) := Lib.hid fun _ h => h
  have HOf := Lib.hid (fun z => ofs_any B Kb Rb Fb Sb Ke Db Tb p HKN.out z)
  clear hmD hmT HS HC
  go_wp2_with fail
  clear q2
  go_loopw [31] (fun ii wr => ∃ (j : Nat) (s : EfS), ii = .int .i64 j ∧ j ≤ p.fs.length ∧ Hid (∀ s2, EvL p j s s2 → EvL p 0 (efNew p) s2) ∧ Hid (EfIs B Kb Rb Fb Sb Ke Db Tb p s wr) ∧ Hid (KpE Ke Db Tb wc wr)) (fun ii _ => p.fs.length - (intOf ii).toNat)
  case atStart => exact ⟨0, efNew p, rfl, Nat.zero_le _, HAc0, HE4, HK0⟩
  case round =>
   obtain ⟨j, s, rfl, hj, hAc, hE, hK⟩ := hrel
   clear HAc0 HE4 HK0
   have p2 : (0 : Int) ≤ (j : Int) := Int.natCast_nonneg _
   by_cases hlt : j < p.fs.length
   ·have p1 : (j : Int) < (p.fs.length : Int) := by omega
    have CO := Lib.hid (HOf.out (zer s.st) j s wr hlt hE.out (Nat.le_refl _))
    go_wp2_with fail
    refine CO.out.mono ?_
    rintro e w7 ⟨m, s2, rfl, hev, he7, hk7⟩
    have HE7 := Lib.hid he7
    have HK7 : Hid (KpE Ke Db Tb wc w7) := Lib.hid (hK.out.trans hk7)
    have HAn : Hid (∀ s3, EvL p (j + 1) s2 s3 → EvL p 0 (efNew p) s3) := Lib.hid fun s3 h => hAc.out s3 (.step hlt hev h)
    clear hev he7 hk7 hAc hK hE CO
    go_wp2_with fail
    go_roundw
    case rel => exact ⟨j + 1, s2, by go_num, by omega, HAn, HE7, HK7⟩
    case measure => simp [intOf]; omega
   ·obtain rfl : j = p.fs.length := by omega
    have HV : Hid (EvL p 0 (efNew p) s) := Lib.hid (hAc.out s (.done (Nat.le_refl _)))
    have HL : Hid (w.heap.size ≤ Ke ∧ w.heap.size ≤ Db ∧ w.heap.size ≤ Tb) := Lib.hid ⟨Nat.le_trans HW1.out.size HL4.out.1, Nat.le_trans HW1.out.size HL4.out.2.1, Nat.le_trans HW1.out.size HL4.out.2.2⟩
    have HBl : Hid (Below w.heap.size w wr) := Lib.hid ((HW1.out.trans (HB4.out.mono HW1.out.size)).trans (hK.out.below (Nat.le_trans HW1.out.size HB4.out.size) (fun k hk => by rcases hk with rfl | rfl | rfl; exact HL.out.1; exact HL.out.2.1; exact HL.out.2.2)))
    clear hAc hK
    go_wp2_with fail
    refine bodyPost_ret (v := .tuple #[.pointer (some ⟨Ke, 0, none⟩), .int .i64 0]) (by simp [results, Tryz.results59, go_sem]) rfl ?_
    exact ⟨Kb, Rb, Fb, Sb, Ke, Db, Tb, s, rfl, HV.out, hE.out, HL.out, HBl.out⟩
end Go.Proofs.YtkklogikakcanaaGreatDoor
