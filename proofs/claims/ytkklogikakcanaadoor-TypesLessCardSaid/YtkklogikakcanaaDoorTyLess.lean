/-
  TypesLess: a program without one of its threads.
-/
import Derived.Test.YtkklogikakcanaaDoorTyFirst
set_option linter.unusedVariables false
set_option linter.unusedSimpArgs false
namespace Go.Proofs.YtkklogikakcanaaDoor
open Go Go.RowKit

theorem wp_append_run {P : Program} {o : Oper} {a : Act} {w : World} {K : Act → World → Prop} {Q : Exit → Act → World → Prop} (s x : Operand) (t : TypeId)
    (ho : o.op = .call { callee := .builtin .append, args := #[s, x], argTypes := #[t, t] }) (v v2 : Value) (hs : a.eval s = v) (hx : a.eval x = v2) (v' : Value) (w' : World)
    (hr : (Builtin.append_ #[t, t] o.type #[v, v2]).run P w = .ok v' w') (h : K (a.put o.dst v') w') : o.wp P a w K Q := by
  unfold Oper.wp execOp
  simp only [ho, resolve, invoke, builtin, Sem.run_bind, Sem.run_pure, Result.andThen_ok, List.map_toArray, List.map_cons, List.map_nil, hs, hx, hr]
  exact h
theorem ths_cell {w : World} {b : Nat} {l : List Th} (hat : ∀ i y, l[i]? = some y → ThAt w b (i * 1) y) (j : Nat) (v : Value) (hv : (l.flatMap Th.cells)[j]? = some v) : w.cell? ⟨b, j, none⟩ = some v := by
  have hj : j < l.length := by
    have := (List.getElem?_eq_some_iff.1 hv).1
    rwa [ths_flat_len] at this
  have h := flat_at Th.cells 1 (fun _ => rfl) l j 0 _ (List.getElem?_eq_getElem hj) (by decide)
  rw [Nat.mul_one, Nat.add_zero, hv] at h
  have h2 := (hat j _ (List.getElem?_eq_getElem hj)).c0
  rw [Nat.mul_one] at h2
  rw [h2]
  exact h.symm
theorem row_of_cells {w : World} {B b : Nat} {c : Nat} {l : List Th} (hb : b < B) (h : ∀ j v, (l.flatMap Th.cells)[j]? = some v → w.cell? ⟨b, j, none⟩ = some v) : RowIn ThAt 1 w B ⟨some ⟨b, 0, none⟩, c⟩ l := fun _ =>
  ⟨b, 0, rfl, hb, fun i y hy => by
    rw [Nat.zero_add, Nat.mul_one]
    refine ⟨h i _ ?_⟩
    have h2 := flat_at Th.cells 1 (fun _ => rfl) l i 0 y hy (by decide)
    rw [Nat.mul_one, Nat.add_zero] at h2
    rw [h2]; rfl⟩
set_option maxHeartbeats 1000000 in
theorem append_threads (w : World) (b k c ty : Nat) (l : List Th) (hat : ∀ i y, l[i]? = some y → ThAt w b (i * 1) y) (hk : k < l.length) (hn : l.length ≤ 262144) (hbl : b < w.heap.size) :
    ∃ A c' w5, (Builtin.append_ #[25, 25] ty #[.slice (some ⟨b, 0, none⟩) k k, .slice (some ⟨b, k + 1, none⟩) (l.length - (k + 1)) c]).run Tryd.prog w = .ok (.slice A (l.length - 1) c') w5 ∧
      RowIn ThAt 1 w5 w5.heap.size ⟨A, c'⟩ (l.take k ++ l.drop (k + 1)) ∧ Below w.heap.size w w5 ∧ (A = some ⟨b, 0, none⟩ ∨ A = some ⟨w.heap.size, 0, none⟩) := by
  obtain ⟨i0, hi0, hz0, hz1, hz2⟩ := info_parts infoRow
  have hol : ∀ j v, ((l.take k).flatMap Th.cells)[j]? = some v → w.cell? ((⟨b, 0, none⟩ : Addr).add j) = some v := fun j v hv => by
    rw [addr_add, Nat.zero_add]
    refine ths_cell hat j v ?_
    have e : l.flatMap Th.cells = (l.take k).flatMap Th.cells ++ (l.drop k).flatMap Th.cells := by rw [← List.flatMap_append, List.take_append_drop]
    rw [e, List.getElem?_append_left (List.getElem?_eq_some_iff.1 hv).1]; exact hv
  have hnw : ∀ j v, ((l.drop (k + 1)).flatMap Th.cells)[j]? = some v → w.cell? ((⟨b, k + 1, none⟩ : Addr).add j) = some v := fun j v hv => by
    rw [addr_add]
    refine ths_cell hat (k + 1 + j) v ?_
    have e : l.flatMap Th.cells = (l.take (k + 1)).flatMap Th.cells ++ (l.drop (k + 1)).flatMap Th.cells := by rw [← List.flatMap_append, List.take_append_drop]
    have hlk : ((l.take (k + 1)).flatMap Th.cells).length = k + 1 := by rw [ths_flat_len, List.length_take]; omega
    rw [e, List.getElem?_append_right (by rw [hlk]; omega), hlk, Nat.add_sub_cancel_left]; exact hv
  have hll : ((l.take k).flatMap Th.cells).length = k := by rw [ths_flat_len, List.length_take]; omega
  have hln : ((l.drop (k + 1)).flatMap Th.cells).length = l.length - (k + 1) := by rw [ths_flat_len, List.length_drop]
  by_cases hm : l.length - (k + 1) = 0
  · refine ⟨some ⟨b, 0, none⟩, k, w, ?_, ?_, Below.refl _ _, Or.inl rfl⟩
    · rw [hm, show l.length - 1 = k by omega]
      have hu := Tryd.underlying25
      have hl0 : ∀ (x : Addr), (loadCells x 0).run Tryd.prog w = .ok #[] w := fun x => by simpa using run_loadCells_list (P := Tryd.prog) w x [] (by simp)
      simp [Builtin.append_, run_underlying hu, sizeOf, typeInfo, zeroValue, hi0, hz0, hz1, Builtin.lenOf, Builtin.firstCells, hl0, storeCells]
    · rw [show l.drop (k + 1) = [] by rw [List.drop_eq_nil_iff]; omega, List.append_nil]
      exact row_of_cells hbl fun j v hv => by have := hol j v hv; rw [addr_add, Nat.zero_add] at this; exact this
  · have hr := run_append_grow (P := Tryd.prog) w 25 ty 41 i0 (.slice none 0 0) Tryd.underlying25 hi0 hz0 ⟨b, 0, none⟩ k k ((l.take k).flatMap Th.cells) (by rw [hz1, hll]; omega) hol ⟨b, k + 1, none⟩ (l.length - (k + 1)) c ((l.drop (k + 1)).flatMap Th.cells) (by rw [hz1, hln]; omega) hnw (by omega) (by omega)
      (by rw [hz2]; exact growslice_fits (by omega) (by omega))
    rw [show k + (l.length - (k + 1)) = l.length - 1 by omega] at hr
    refine ⟨_, _, _, hr, row_of_cells (by rw [World.size_alloc]; exact Nat.lt_succ_self _) fun j v hv => ?_, ⟨rfl, rfl, rfl, by simp, fun i hi => heap_alloc_old w.drew _ hi⟩, Or.inr rfl⟩
    refine (cell_at (heap_alloc_new w.drew _) j).trans ?_
    rw [List.flatMap_append] at hv
    have hj := (List.getElem?_eq_some_iff.1 hv).1
    rw [Array.getElem?_append_left (by simp only [Array.size_append, List.size_toArray]; rw [List.length_append] at hj; exact hj), List.append_toArray, List.getElem?_toArray]
    exact hv
/-- one thread left out -/
abbrev dropT (p : Pr) (k : Nat) : Pr := ⟨p.rd, p.rs, p.sd, p.ss, p.fd, p.fs, p.td, p.ts.take k ++ p.ts.drop (k + 1)⟩
theorem strip_drop {p q : Pr} (h : stripP q = stripP p) (k : Nat) (d : Hd) : stripP ⟨q.rd, q.rs, q.sd, q.ss, q.fd, q.fs, d, q.ts.take k ++ q.ts.drop (k + 1)⟩ = stripP (dropT p k) := by
  unfold stripP at h ⊢
  injection h with h1 h2 h3 h4 h5 h6 h7 h8
  dsimp only
  rw [h2, h4, h6, List.map_append, List.map_append, List.map_take, List.map_take, List.map_drop, List.map_drop, h8]
theorem mem_drop {p : Pr} {k : Nat} {t : Th} (h : t ∈ p.ts.take k ++ p.ts.drop (k + 1)) : t ∈ p.ts := by
  rcases List.mem_append.1 h with h | h
  · exact List.mem_of_mem_take h
  · exact List.mem_of_mem_drop h
abbrev QcS (Q b n c : Nat) (q : Pr) (W : World) : Prop := W.cell? ⟨Q, 3, none⟩ = some (.slice (some ⟨b, 0, none⟩) n c)
set_option maxHeartbeats 8000000 in
set_option maxRecDepth 100000 in
theorem without_any (p : Pr) (k : Nat) (w : World) (hI : PrIn w w.heap.size p) (G : Globs w) (S : PrSmall p) (hk : k < p.ts.length) :
    Calls Tryd.prog 14 #[p.val, .int .i64 k] w fun e w' => ∃ q : Pr, e = .returned q.val ∧ PrIn w' w'.heap.size q ∧ stripP q = stripP (dropT p k) ∧ Below w.heap.size w w' := by
  obtain ⟨X, hX⟩ : ∃ X, w.heap.size = X := ⟨_, rfl⟩
  obtain ⟨w0, hw0⟩ : ∃ w0, w.alloc (prObj p) = w0 := ⟨_, rfl⟩
  obtain ⟨R, hR⟩ : ∃ R, w0.heap.size = R := ⟨_, rfl⟩
  obtain ⟨w1, hw1⟩ : ∃ w1, w0.alloc (.cells #[.slice none 0 0, .slice none 0 0, .slice none 0 0, .slice none 0 0] 27 (0, 0)) = w1 := ⟨_, rfl⟩
  have hb0 : Below w.heap.size w w0 := by rw [← hw0]; exact (Below.refl _ _).alloc (Nat.le_refl _) _
  have hb01 : Below w0.heap.size w0 w1 := by rw [← hw1]; exact (Below.refl _ _).alloc (Nat.le_refl _) _
  have s0 : w0.heap.size = X + 1 := by rw [← hw0, World.size_alloc, hX]
  have hb1 : Below w.heap.size w w1 := hb0.trans (hb01.mono hb0.size)
  have x1 : w1.heap[X]? = some (prObj p) := (hb01.block X (by omega)).trans (by rw [← hw0, ← hX]; exact heap_alloc_new w _)
  have r1 : w1.heap[R]? = some (.cells #[.slice none 0 0, .slice none 0 0, .slice none 0 0, .slice none 0 0] 27 (0, 0)) := by rw [← hw1, ← hR]; exact heap_alloc_new w0 _
  have CT : Hid (Calls Tryd.prog 15 #[p.val] w1 fun e w' => ∃ q : Pr, e = .returned (.agg q.cells.toArray) ∧ stripP q = stripP p ∧ TnP w' w1.heap.size w'.heap.size q ∧ Below w1.heap.size w1 w') := Lib.hid (twinPr_any w1.heap.size p w1 (hI.keep hb1 hb1.size) (Nat.le_refl _) (G.below hb1) S)
  have HR1 : Hid (∀ W, Below w1.heap.size w1 W → W.heap[R]? = some (.cells #[.slice none 0 0, .slice none 0 0, .slice none 0 0, .slice none 0 0] 27 (0, 0))) := Lib.hid fun W hb => (hb.block R (blk_lt r1)).trans r1
  have HB1 := Lib.hid hb1
  have HRl : Hid (w.heap.size ≤ R ∧ R < w1.heap.size) := Lib.hid ⟨by omega, blk_lt r1⟩
  have HN : Hid (w.heap.size = X ∧ X + 1 = R ∧ (w.alloc (prObj p)).alloc (.cells #[.slice none 0 0, .slice none 0 0, .slice none 0 0, .slice none 0 0] 27 (0, 0)) = w1) := Lib.hid ⟨hX, by omega, by rw [hw0, hw1]⟩
  have HS := Lib.hid S
  have Hk := Lib.hid hk
  have q0 := cell_at x1 0
  have q1 := cell_at x1 1
  have q2 := cell_at x1 2
  have q3 := cell_at x1 3
  simp only [List.getElem?_toArray, List.getElem?_cons_zero, List.getElem?_cons_succ] at q0 q1 q2 q3
  rw [← hw1, ← hw0, ← hX] at q0 q1 q2 q3
  clear hX hw0 hw1 hR hb0 hb01 s0 hb1 x1 r1 hI G S hk
  go_enter Tryd.func14, Tryd.ntmps14
  go_wp2_with fail
  simp only [HN.out.1, HN.out.2.1, HN.out.2.2]
  refine CT.out.mono ?_
  rintro e w2 ⟨q, rfl, hst, hTn, hb2⟩
  have hqi := hTn.inn
  have hql := strip_len hst
  obtain ⟨b, ha, hgb, hbB, hc, hat, -⟩ := hTn.ts.row
  have hsd := strip_drop hst k
  have hn : q.ts.length ≤ 262144 := by have := HS.out.heads; omega
  obtain ⟨qrd, qrs, qsd, qss, qfd, qfs, ⟨A, cq⟩, qts⟩ := q
  dsimp only at ha hc hql hat hsd hn
  subst ha hc
  obtain ⟨Q, hQ⟩ : ∃ Q, w2.heap.size = Q := ⟨_, rfl⟩
  obtain ⟨w3, hw3⟩ : ∃ w3, w2.alloc (.cells #[.slice qrd.a qrs.length qrd.c, .slice qsd.a qss.length qsd.c, .slice qfd.a qfs.length qfd.c, .slice (some ⟨b, 0, none⟩) qts.length (qts.length + 2)] 27 (0, 0)) = w3 := ⟨_, rfl⟩
  have hb3 : Below w2.heap.size w2 w3 := by rw [← hw3]; exact (Below.refl _ _).alloc (Nat.le_refl _) _
  have x3 : w3.heap[Q]? = some (.cells #[.slice qrd.a qrs.length qrd.c, .slice qsd.a qss.length qsd.c, .slice qfd.a qfs.length qfd.c, .slice (some ⟨b, 0, none⟩) qts.length (qts.length + 2)] 27 (0, 0)) := by rw [← hw3, ← hQ]; exact heap_alloc_new w2 _
  have hkq : k < qts.length := by rw [hql]; exact Hk.out
  have hat3 : ∀ i y, qts[i]? = some y → ThAt w3.drew b (i * 1) y := fun i y hy => (hat i y hy).keep fun o => hb3.cell (p := ⟨b, o, none⟩) hbB
  obtain ⟨A5, c5, w5, hap, hrow5, hb5, hA5⟩ := append_threads w3.drew b k (qts.length + 2 - (k + 1)) 25 qts hat3 hkq hn (by have := hb3.size; show b < w3.heap.size; omega)
  have hpre : w3.heap[Q]? = some (.cells #[.slice qrd.a qrs.length qrd.c, .slice qsd.a qss.length qsd.c, .slice qfd.a qfs.length qfd.c, .slice (some ⟨b, 0, none⟩) qts.length (qts.length + 2)] 27 (0, 0)) := x3
  have x5 := (hb5.block Q (by show Q < w3.heap.size; exact blk_lt x3)).trans hpre
  have c5c := cell_at x5 3
  have f5c := frz_at x5 3
  have c3c := cell_at x3 3
  simp only [List.getElem?_toArray, List.getElem?_cons_zero, List.getElem?_cons_succ] at c5c c3c
  have HS3 : Hid (QcS Q b qts.length (qts.length + 2) p w3.drew) := Lib.hid c3c
  have HS5 : Hid (QcS Q b qts.length (qts.length + 2) p w5) := Lib.hid c5c
  have HHap := Lib.hid hap
  obtain ⟨w6, hw6⟩ : ∃ w6, w5.setCell ⟨Q, 3, none⟩ (.slice A5 (qts.length - 1) c5) = w6 := ⟨_, rfl⟩
  have x6 := row_set x5 3 (.slice A5 (qts.length - 1) c5)
  rw [hw6] at x6
  have b36 : Below w3.heap.size w3 w5 := (Below.refl _ w3).drew.trans hb5
  have b26 : Below w2.heap.size w2 w6 := by rw [← hw6]; exact (hb3.trans (b36.mono hb3.size)).setCell (p := ⟨Q, 3, none⟩) (by show w2.heap.size ≤ Q; omega) _
  have hlt : (qts.take k ++ qts.drop (k + 1)).length = qts.length - 1 := by rw [List.length_append, List.length_take, List.length_drop]; omega
  have s6 : w6.heap.size = w5.heap.size := by rw [← hw6]; simp
  have s25 : w2.heap.size ≤ w5.heap.size := Nat.le_trans hb3.size b36.size
  have hRg := HRl.out.2
  have hq6 : ∀ W, (∀ j, w1.heap.size ≤ j → j < w6.heap.size → W.heap[j]? = w6.heap[j]?) → w6.heap.size ≤ W.heap.size → PrIn W W.heap.size ⟨qrd, qrs, qsd, qss, qfd, qfs, ⟨A5, c5⟩, qts.take k ++ qts.drop (k + 1)⟩ := fun W hW hWs => by
    have h := (hTn.keep (w' := W) (g' := w1.heap.size) (B' := W.heap.size) (fun j h1 h2 => (hW j h1 (by rw [s6]; omega)).trans (b26.block j h2)) (Nat.le_refl _) (by rw [s6] at hWs; omega)).inn
    exact ⟨h.rlen, h.rrow, h.rsub, h.ss, h.flen, h.frow, h.fsub, by have := h.tlen; unfold lenOk at *; rw [hlt]; dsimp only at this; omega, fun hne => by
      obtain ⟨b', off, h1, h2, h3⟩ := hrow5 hne
      dsimp only at h1
      have hbg : w1.heap.size ≤ b' ∧ b' ≠ Q := by
        rw [h1] at hA5
        rcases hA5 with hA5 | hA5
        · injection hA5 with hA5
          injection hA5 with hA5
          rw [hA5]
          exact ⟨hgb, by omega⟩
        · injection hA5 with hA5
          injection hA5 with hA5
          have hx := blk_lt x3
          have hz : b' = w3.heap.size := hA5
          exact ⟨by rw [hz]; exact Nat.le_trans hb2.size hb3.size, by omega⟩
      refine ⟨b', off, h1, by rw [s6] at hWs; omega, fun i y hy => (h3 i y hy).keep fun o => ?_⟩
      have e1 : W.heap[b']? = w6.heap[b']? := hW b' hbg.1 (by rw [s6]; exact h2)
      have e2 : W.cell? ⟨b', o, none⟩ = w6.cell? ⟨b', o, none⟩ := by unfold World.cell?; rw [e1]
      rw [e2, ← hw6]
      exact World.cell?_setCell_other _ _ _ _ (fun e => hbg.2 (by injection e with e1; first | exact e1 | exact e1.symm)), fun t ht => h.tsub t (mem_drop (p := ⟨qrd, qrs, qsd, qss, qfd, qfs, ⟨A5, c5⟩, qts⟩) ht)⟩
  have r6 := HR1.out _ (hb2.trans (b26.mono hb2.size))
  have hB6 : Below w.heap.size w w6 := HB1.out.trans ((hb2.trans (b26.mono hb2.size)).mono HB1.out.size)
  have HZq : Hid (∀ W, Kept (fun j => j = R) w6 W → PrIn W W.heap.size ⟨qrd, qrs, qsd, qss, qfd, qfs, ⟨A5, c5⟩, qts.take k ++ qts.drop (k + 1)⟩ ∧ Below w.heap.size w W) := Lib.hid fun W hk => ⟨hq6 W (fun j h1 h2 => hk.block j h2 (by omega)) hk.size, hB6.trans (hk.below hB6.size (fun j e => by rw [e]; exact HRl.out.1))⟩
  have u0 := cell_at r6 0
  have u1 := cell_at r6 1
  have u2 := cell_at r6 2
  have u3 := cell_at r6 3
  have v0 := frz_at r6 0
  have v1 := frz_at r6 1
  have v2 := frz_at r6 2
  have v3 := frz_at r6 3
  have rr := row_set (row_set (row_set (row_set r6 0 (.slice qrd.a qrs.length qrd.c)) 1 (.slice qsd.a qss.length qsd.c)) 2 (.slice qfd.a qfs.length qfd.c)) 3 (.slice A5 (qts.length - 1) c5)
  have g0 := cell_at rr 0
  have g1 := cell_at rr 1
  have g2 := cell_at rr 2
  have g3 := cell_at rr 3
  simp at u0 u1 u2 u3 g0 g1 g2 g3
  have HKR : Hid (Kept (fun j => j = R) w6 ((((w6.setCell ⟨R, 0, none⟩ (.slice qrd.a qrs.length qrd.c)).setCell ⟨R, 1, none⟩ (.slice qsd.a qss.length qsd.c)).setCell ⟨R, 2, none⟩ (.slice qfd.a qfs.length qfd.c)).setCell ⟨R, 3, none⟩ (.slice A5 (qts.length - 1) c5))) := Lib.hid (by
    have hh := Kept.refl (fun j => j = R) w6
    have h0 := Kept.setCell (S := fun j => j = R) hh (p := ⟨R, 0, none⟩) (Or.inl rfl) (.slice qrd.a qrs.length qrd.c)
    have h1 := Kept.setCell (S := fun j => j = R) h0 (p := ⟨R, 1, none⟩) (Or.inl rfl) (.slice qsd.a qss.length qsd.c)
    have h2 := Kept.setCell (S := fun j => j = R) h1 (p := ⟨R, 2, none⟩) (Or.inl rfl) (.slice qfd.a qfs.length qfd.c)
    exact Kept.setCell (S := fun j => j = R) h2 (p := ⟨R, 3, none⟩) (Or.inl rfl) _)
  have HSd := Lib.hid (hsd ⟨A5, c5⟩)
  have HLt := Lib.hid hlt
  have HW3 := Lib.hid (And.intro hQ hw3)
  have HW6 := Lib.hid hw6
  have z0 := cell_at x6 0
  have z1 := cell_at x6 1
  have z2 := cell_at x6 2
  have z3 := cell_at x6 3
  simp at z0 z1 z2 z3
  have hkI : (k : Int) < (qts.length : Int) := by omega
  have hkI2 : (qts.length : Int) ≤ 262144 := by omega
  have hkI3 : (k : Int) ≤ (qts.length : Int) + 2 := by omega
  have hkI4 : (k : Int) + 1 ≤ (qts.length : Int) := by omega
  have hkI5 : (k : Int) + 1 ≤ (qts.length : Int) + 2 := by omega
  have hkI6 : (0 : Int) ≤ (k : Int) + 1 := by omega
  have HWr : Hid (IntKind.i64.wrap ((k : Int) + 1) = (k : Int) + 1 ∧ ((k : Int) + 1).toNat = k + 1 ∧ ¬ (qts.length + 2 = k + 1)) := Lib.hid ⟨by rw [IntKind.wrap_i64]; omega, by omega, by omega⟩
  dsimp only [Pr.cells]
  clear hst hTn hqi hql hgb hbB hat hsd hb2 hQ hw3 hb3 x3 hpre x5 hat3 hrow5 hb5 hA5 hap hw6 x6 b36 b26 hlt s6 hq6 s25 hRg hB6 rr r6 q0 q1 q2 q3 CT hn
  go_wp2_with fail
  simp only [HW3.out.1, HW3.out.2]
  refine wp_region_L (l := 12) (S := (QcS Q b qts.length (qts.length + 2) p)) (by kernel_rfl) ?_ (fun hHeld => ?_)
  · ((try dsimp only); (exact HS3.out))
  refine wpAnyL_take (i := 0) (oi := _) (v := ?v1) rfl (by kernel_rfl) (fun _ _ _ h => h) (by assumption) (Or.inl ⟨by kernel_rfl, ?y1⟩) ?r1
  case y1 => (intro w hSw; (try dsimp only at hSw); go_simp; all_goals with_reducible rfl)
  try simp only [List.getElem_toArray, List.getElem_cons_zero, List.getElem_cons_succ, Act.put, List.setIfInBounds_toArray, List.set_cons_zero, List.set_cons_succ]
  refine wpAnyL_take (i := 1) (oi := _) (v := ?v2) rfl (by kernel_rfl) (fun _ _ _ h => h) (by assumption) (Or.inl ⟨by kernel_rfl, ?y2⟩) ?r2
  case y2 => (intro w hSw; (try dsimp only at hSw); go_simp; all_goals with_reducible rfl)
  try simp only [List.getElem_toArray, List.getElem_cons_zero, List.getElem_cons_succ, Act.put, List.setIfInBounds_toArray, List.set_cons_zero, List.set_cons_succ]
  refine wpAnyL_take (i := 2) (oi := _) (v := ?v3) rfl (by kernel_rfl) (fun _ _ _ h => h) (by assumption) (Or.inl ⟨by kernel_rfl, ?y3⟩) ?r3
  case y3 => (intro w hSw; (try dsimp only at hSw); go_simp; all_goals with_reducible rfl)
  try simp only [List.getElem_toArray, List.getElem_cons_zero, List.getElem_cons_succ, Act.put, List.setIfInBounds_toArray, List.set_cons_zero, List.set_cons_succ]
  refine wpAnyL_take (i := 3) (oi := _) (v := ?v4) rfl (by kernel_rfl) (fun _ _ _ h => h) (by assumption) (Or.inl ⟨by kernel_rfl, ?y4⟩) ?r4
  case y4 => (intro w hSw; (try dsimp only at hSw); go_simp; all_goals with_reducible rfl)
  try simp only [List.getElem_toArray, List.getElem_cons_zero, List.getElem_cons_succ, Act.put, List.setIfInBounds_toArray, List.set_cons_zero, List.set_cons_succ]
  refine wpAnyL_take (i := 4) (oi := _) (v := ?v5) rfl (by kernel_rfl) (fun _ _ _ h => h) (by assumption) (Or.inl ⟨by kernel_rfl, ?y5⟩) ?r5
  case y5 => (intro w hSw; (try dsimp only at hSw); go_simp; all_goals with_reducible rfl)
  try simp only [List.getElem_toArray, List.getElem_cons_zero, List.getElem_cons_succ, Act.put, List.setIfInBounds_toArray, List.set_cons_zero, List.set_cons_succ]
  refine wpAnyL_take (i := 5) (oi := _) (v := ?v6) rfl (by kernel_rfl) (fun _ _ _ h => h) (by assumption) (Or.inl ⟨by kernel_rfl, ?y6⟩) ?r6
  case y6 => (intro w hSw; (try dsimp only at hSw); go_simp; all_goals with_reducible rfl)
  try simp only [List.getElem_toArray, List.getElem_cons_zero, List.getElem_cons_succ, Act.put, List.setIfInBounds_toArray, List.set_cons_zero, List.set_cons_succ]
  refine wpAnyL_take (i := 6) (oi := _) (v := ?v7) rfl (by kernel_rfl) (fun _ _ _ h => h) (by assumption) (Or.inl ⟨by kernel_rfl, ?y7⟩) ?r7
  case y7 => (intro w hSw; (try dsimp only at hSw); go_simp; all_goals with_reducible rfl)
  try simp only [List.getElem_toArray, List.getElem_cons_zero, List.getElem_cons_succ, Act.put, List.setIfInBounds_toArray, List.set_cons_zero, List.set_cons_succ]
  refine wpAnyL_take (i := 7) (oi := _) (v := ?v8) rfl (by kernel_rfl) (fun _ _ _ h => h) (by assumption) (Or.inl ⟨by kernel_rfl, ?y8⟩) ?r8
  case y8 => (intro w hSw; (try dsimp only at hSw); go_simp; all_goals with_reducible rfl)
  try simp only [List.getElem_toArray, List.getElem_cons_zero, List.getElem_cons_succ, Act.put, List.setIfInBounds_toArray, List.set_cons_zero, List.set_cons_succ]
  refine wpAnyL_take (i := 8) (oi := _) (v := ?v9) rfl (by kernel_rfl) (fun _ _ _ h => h) (by assumption) (Or.inl ⟨by kernel_rfl, ?y9⟩) ?r9
  case y9 => (intro w hSw; (try dsimp only at hSw); go_simp; all_goals with_reducible rfl)
  try simp only [List.getElem_toArray, List.getElem_cons_zero, List.getElem_cons_succ, Act.put, List.setIfInBounds_toArray, List.set_cons_zero, List.set_cons_succ]
  refine wpAnyL_take (i := 9) (oi := _) (v := ?v10) rfl (by kernel_rfl) (fun _ _ _ h => h) (by assumption) (Or.inl ⟨by kernel_rfl, ?y10⟩) ?r10
  case y10 => (intro w hSw; (try dsimp only at hSw); go_simp; rw [HWr.out.1, if_pos (And.intro hkI6 hkI4), HWr.out.2.1, if_neg HWr.out.2.2])
  try simp only [List.getElem_toArray, List.getElem_cons_zero, List.getElem_cons_succ, Act.put, List.setIfInBounds_toArray, List.set_cons_zero, List.set_cons_succ]
  refine wpAnyL_step (j := 10) (o := _) (by kernel_rfl) rfl (fun K hK => ?_)
  (refine wp_append_run (.tmp 12) (.tmp 17) 25 rfl _ _ rfl rfl (.slice A5 (qts.length - 1) c5) w5 HHap.out ?_)
  refine hK _ _ ?_ (fun hHeld => ?_)
  · ((try dsimp only); (exact HS5.out))
  clear hK K
  try simp only [List.getElem_toArray, List.getElem_cons_zero, List.getElem_cons_succ, Act.put, List.setIfInBounds_toArray, List.set_cons_zero, List.set_cons_succ]
  refine wpAnyL_take (i := 11) (oi := _) (v := ?v12) rfl (by kernel_rfl) (fun _ _ _ h => h) (by assumption) (Or.inl ⟨by kernel_rfl, ?y12⟩) ?r12
  case y12 => (intro w hSw; (try dsimp only at hSw); go_simp; all_goals with_reducible rfl)
  try simp only [List.getElem_toArray, List.getElem_cons_zero, List.getElem_cons_succ, Act.put, List.setIfInBounds_toArray, List.set_cons_zero, List.set_cons_succ]
  refine wpAnyL_last (j := 12) (o := _) (by kernel_rfl) rfl (by rfl) (by kernel_rfl) (fun K hK => ?_)
  go_simp
  (refine hK _ _ ?_; clear hK K)
  try simp only [List.getElem_toArray, List.getElem_cons_zero, List.getElem_cons_succ, Act.put, List.setIfInBounds_toArray, List.set_cons_zero, List.set_cons_succ]
  simp only [HW6.out]
  clear hHeld HS3 HS5 HHap c5c f5c
  go_wp2_with fail
  have hln := HLt.out
  refine bodyPost_ret (v := (⟨qrd, qrs, qsd, qss, qfd, qfs, ⟨A5, c5⟩, qts.take k ++ qts.drop (k + 1)⟩ : Pr).val) (by dsimp only [Pr.val]; rw [hln]; simp [results, Tryd.results14, go_sem, g0, g1, g2, g3]) rfl ?_
  exact ⟨_, rfl, (HZq.out _ HKR.out).1, HSd.out, (HZq.out _ HKR.out).2⟩
end Go.Proofs.YtkklogikakcanaaDoor
