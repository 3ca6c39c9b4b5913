/-
  TypesLess: the law, walked.
-/
import Derived.Test.YtkklogikakcanaaDoorTyLess
set_option linter.unusedVariables false
set_option linter.unusedSimpArgs false
namespace Go.Proofs.YtkklogikakcanaaDoor
open Go Go.RowKit

/-! ### a cell of a row of slices stored anew -/
section
variable {w w' : World} {b o : Nat}
theorem ExAt.keepG {x : Ex} (h : ExAt w b o x) (hk : ∀ o', o ≤ o' → w'.cell? ⟨b, o', none⟩ = w.cell? ⟨b, o', none⟩) : ExAt w' b o x :=
  ⟨(hk _ (by omega)).trans h.c0, (hk _ (by omega)).trans h.c1, (hk _ (by omega)).trans h.c2, (hk _ (by omega)).trans h.c3, (hk _ (by omega)).trans h.c4, (hk _ (by omega)).trans h.c5, (hk _ (by omega)).trans h.c6⟩
theorem StAt.keepG {x : St} (h : StAt w b o x) (hk : ∀ o', o ≤ o' → w'.cell? ⟨b, o', none⟩ = w.cell? ⟨b, o', none⟩) : StAt w' b o x :=
  ⟨(hk _ (by omega)).trans h.c0, (hk _ (by omega)).trans h.c1, (hk _ (by omega)).trans h.c2, (hk _ (by omega)).trans h.c3, (hk _ (by omega)).trans h.c4, h.x.keepG fun o' ho => hk o' (by omega), h.y.keepG fun o' ho => hk o' (by omega), (hk _ (by omega)).trans h.c19, (hk _ (by omega)).trans h.c20⟩
theorem FlAt.keepG {x : Fl} (h : FlAt w b o x) (hk : ∀ o', o ≤ o' → w'.cell? ⟨b, o', none⟩ = w.cell? ⟨b, o', none⟩) : FlAt w' b o x :=
  ⟨(hk _ (by omega)).trans h.c0, (hk _ (by omega)).trans h.c1, (hk _ (by omega)).trans h.c2, (hk _ (by omega)).trans h.c3⟩
theorem ReAt.keepG {x : Re} (h : ReAt w b o x) (hk : ∀ o', o ≤ o' → w'.cell? ⟨b, o', none⟩ = w.cell? ⟨b, o', none⟩) : ReAt w' b o x :=
  ⟨(hk _ (by omega)).trans h.c0, (hk _ (by omega)).trans h.c1⟩
theorem FuAt.keepG {x : Fu} (h : FuAt w b o x) (hk : ∀ o', o ≤ o' → w'.cell? ⟨b, o', none⟩ = w.cell? ⟨b, o', none⟩) : FuAt w' b o x :=
  ⟨(hk _ (by omega)).trans h.c0, (hk _ (by omega)).trans h.c1, (hk _ (by omega)).trans h.c2, (hk _ (by omega)).trans h.c3, (hk _ (by omega)).trans h.c4, (hk _ (by omega)).trans h.c5⟩
end
theorem RowIn.keepH {α : Type} {At : World → Nat → Nat → α → Prop} {k : Nat} {w w' : World} {B : Nat} {d : Hd} {l : List α} (h : RowIn At k w B d l) (hAt : ∀ b o y, At w b o y → At w' b o y) : RowIn At k w' B d l := fun hne => by
  obtain ⟨b, off, e, hlt, hc⟩ := h hne
  exact ⟨b, off, e, hlt, fun i y hy => hAt _ _ _ (hc i y hy)⟩
theorem ExIn.keepH {w w' : World} {B : Nat} {x : Ex} (h : ExIn w B x) (hE : ∀ b o y, ExAt w b o y → ExAt w' b o y) : ExIn w' B x := by
  induction h with
  | mk hk hn hnm ht hl row _ ih => exact .mk hk hn hnm ht hl (row.keepH hE) ih
theorem StIn.keepH {w w' : World} {B : Nat} {x : St} (h : StIn w B x) (hE : ∀ b o y, ExAt w b o y → ExAt w' b o y) (hS : ∀ b o y, StAt w b o y → StAt w' b o y) : StIn w' B x := by
  induction h with
  | mk hk hnm ht hx hy hbl hel brow erow _ _ ih1 ih2 => exact .mk hk hnm ht (hx.keepH hE) (hy.keepH hE) hbl hel (brow.keepH hS) (erow.keepH hS) ih1 ih2
theorem StsIn.keepH {w w' : World} {B : Nat} {d : Hd} {l : List St} (h : StsIn w B d l) (hE : ∀ b o y, ExAt w b o y → ExAt w' b o y) (hS : ∀ b o y, StAt w b o y → StAt w' b o y) : StsIn w' B d l :=
  ⟨h.len, h.row.keepH hS, fun s hs => (h.sub s hs).keepH hE hS⟩
theorem StsIn.take {w : World} {B : Nat} {d : Hd} {l : List St} (h : StsIn w B d l) (m : Nat) : StsIn w B d (l.take m) :=
  ⟨by have := h.len; unfold lenOk at *; rw [List.length_take]; omega, fun hne => by
    obtain ⟨b, off, h1, h2, h3⟩ := h.row (fun h0 => hne (by rw [h0]; simp))
    exact ⟨b, off, h1, h2, fun i y hy => h3 i y (by
      rw [List.getElem?_take] at hy
      split at hy
      · exact hy
      · cases hy)⟩, fun s hs => h.sub s (List.mem_of_mem_take hs)⟩
/-- the threads, one of them a beginning of what it was -/
abbrev cutTh (l : List Th) (k m : Nat) (t : Th) : List Th := l.set k ⟨t.d, t.l.take m⟩
theorem PrIn.setT {w : World} {B b k m : Nat} {p : Pr} {t : Th} {c : Nat} (h : PrIn w B p) (hb : b < B) (hd : p.td = ⟨some ⟨b, 0, none⟩, c⟩) (hat : ∀ i y, p.ts[i]? = some y → ThAt w b (i * 1) y) (ht : p.ts[k]? = some t) :
    PrIn (w.setCell ⟨b, k, none⟩ (.slice t.d.a (t.l.take m).length t.d.c)) B ⟨p.rd, p.rs, p.sd, p.ss, p.fd, p.fs, p.td, cutTh p.ts k m t⟩ := by
  obtain ⟨w', hw'⟩ : ∃ w', w.setCell ⟨b, k, none⟩ (.slice t.d.a (t.l.take m).length t.d.c) = w' := ⟨_, rfl⟩
  have hkl : k < p.ts.length := (List.getElem?_eq_some_iff.1 ht).1
  have hsl : ∀ j, j ≤ k → ∃ a l c, w.cell? ⟨b, j, none⟩ = some (.slice a l c) := fun j hj => by
    have h1 := (hat j _ (List.getElem?_eq_getElem (by omega : j < p.ts.length))).c0
    rw [Nat.mul_one] at h1
    exact ⟨_, _, _, h1⟩
  have hoth : ∀ b' o', ¬ (b' = b ∧ o' = k) → w'.cell? ⟨b', o', none⟩ = w.cell? ⟨b', o', none⟩ := fun b' o' hne => by
    rw [← hw']
    exact World.cell?_setCell_other _ _ _ _ (fun e => hne (by injection e with e1 e2; first | exact ⟨e1, e2⟩ | exact ⟨e1.symm, e2.symm⟩))
  have hge : ∀ b' o x, w.cell? ⟨b', o, none⟩ = some x → (∀ a l c, x ≠ .slice a l c) → ∀ o', o ≤ o' → w'.cell? ⟨b', o', none⟩ = w.cell? ⟨b', o', none⟩ := fun b' o x hx hn o' ho => hoth b' o' (by
    rintro ⟨rfl, rfl⟩
    obtain ⟨a, l, c, h1⟩ := hsl o ho
    rw [hx] at h1
    injection h1 with h1
    exact hn _ _ _ h1)
  have hE : ∀ b o y, ExAt w b o y → ExAt w' b o y := fun b' o y hy => hy.keepG (hge b' o _ hy.c0 (fun _ _ _ e => by cases e))
  have hS : ∀ b o y, StAt w b o y → StAt w' b o y := fun b' o y hy => hy.keepG (hge b' o _ hy.c0 (fun _ _ _ e => by cases e))
  have hF : ∀ b o y, FlAt w b o y → FlAt w' b o y := fun b' o y hy => hy.keepG (hge b' o _ hy.c0 (fun _ _ _ e => by cases e))
  have hR : ∀ b o y, ReAt w b o y → ReAt w' b o y := fun b' o y hy => hy.keepG (hge b' o _ hy.c0 (fun _ _ _ e => by cases e))
  have hU : ∀ b o y, FuAt w b o y → FuAt w' b o y := fun b' o y hy => hy.keepG (hge b' o _ hy.c0 (fun _ _ _ e => by cases e))
  have hFl : ∀ d l, FlsIn w B d l → FlsIn w' B d l := fun d l hl => ⟨hl.len, hl.row.keepH hF, hl.sub⟩
  rw [hw']
  refine ⟨h.rlen, h.rrow.keepH hR, fun r hr => ⟨(h.rsub r hr).nm, hFl _ _ (h.rsub r hr).fs⟩, hFl _ _ h.ss, h.flen, h.frow.keepH hU, fun f hf => ⟨(h.fsub f hf).nm, hFl _ _ (h.fsub f hf).ps, (h.fsub f hf).t, (h.fsub f hf).body.keepH hE hS⟩, by have := h.tlen; unfold lenOk at *; rw [List.length_set]; exact this, fun _ => ⟨b, 0, by dsimp only; rw [hd], hb, fun i y hy => ?_⟩, fun u hu => ?_⟩
  · rw [Nat.zero_add, Nat.mul_one]
    refine ⟨?_⟩
    by_cases hik : i = k
    · subst hik
      rw [List.getElem?_set_self hkl] at hy
      injection hy with hy
      subst hy
      rw [← hw']
      have h1 := (hat i t ht).c0
      rw [Nat.mul_one] at h1
      exact World.cell?_setCell_same w ⟨b, i, none⟩ _ h1
    · rw [List.getElem?_set_ne (fun e => hik e.symm)] at hy
      have h1 := (hat i y hy).c0
      rw [Nat.mul_one] at h1
      exact (hoth b i (fun e => hik e.2)).trans h1
  · rcases List.mem_or_eq_of_mem_set hu with hu | rfl
    · exact (h.tsub u hu).keepH hE hS
    · exact ((h.tsub t (List.mem_of_getElem? ht)).take m).keepH hE hS
theorem strip_set {p q : Pr} (h : stripP q = stripP p) (k m : Nat) (t u : Th) (ht : q.ts[k]? = some t) (hu : p.ts[k]? = some u) : stripP ⟨q.rd, q.rs, q.sd, q.ss, q.fd, q.fs, q.td, cutTh q.ts k m t⟩ = stripP ⟨p.rd, p.rs, p.sd, p.ss, p.fd, p.fs, p.td, cutTh p.ts k m u⟩ := by
  unfold stripP at h ⊢
  injection h with h1 h2 h3 h4 h5 h6 h7 h8
  dsimp only
  have htu : stripT t = stripT u := by
    have h9 := congrArg (fun l => l[k]?) h8
    simp only [List.getElem?_map, ht, hu, Option.map_some, Option.some.injEq] at h9
    exact h9
  have hl : stripSs t.l = stripSs u.l := by unfold stripT at htu; injection htu
  rw [h2, h4, h6, List.map_set, List.map_set, h8]
  unfold stripT
  dsimp only
  rw [stripSs_map, stripSs_map, List.map_take, List.map_take, ← stripSs_map, ← stripSs_map, hl]
theorem sum_set (f : Th → Nat) : ∀ (l : List Th) (k : Nat) (t u : Th), l[k]? = some t → f u ≤ f t → ((l.set k u).map f).sum ≤ (l.map f).sum
  | [], _, _, _, h, _ => by simp at h
  | x :: r, 0, t, u, h, hf => by
    simp only [List.getElem?_cons_zero, Option.some.injEq] at h
    subst h
    simp only [List.set_cons_zero, List.map_cons, List.sum_cons]
    omega
  | x :: r, k + 1, t, u, h, hf => by
    have := sum_set f r k t u (by simpa using h) hf
    simp only [List.set_cons_succ, List.map_cons, List.sum_cons]
    omega
theorem stCounts_take (l : List St) (m : Nat) : stCounts (l.take m) ≤ stCounts l := by
  have h := stCounts_app (l.take m) (l.drop m)
  rw [List.take_append_drop] at h
  omega
abbrev QtS (Q b j n b2 m : Nat) (W : World) : Prop := W.cell? ⟨Q, 3, none⟩ = some (.slice (some ⟨b, 0, none⟩) n (n + 2)) ∧ W.cell? ⟨b, j, none⟩ = some (.slice (some ⟨b2, 0, none⟩) m (m + 2))
theorem types_zero {p : Pr} {a : Int} (h : typesCheck p = (a, 0)) : a = 0 := by
  unfold typesCheck at h
  split at h
  · injection h with _ h; cases h
  · unfold scFault scPr at h
    cases hs : scHeads p with
    | bad q e =>
      rw [hs] at h
      injection h with _ h
      exact absurd h (scHeads_ne p q e hs)
    | on a1 =>
      rw [hs] at h
      cases ht : scThs p p.ts a1 with
      | bad q e =>
        change (match scThs p p.ts a1 with | .bad q e => (q, e) | .on _ => (0, 0)) = _ at h
        rw [ht] at h
        injection h with _ h
        exact absurd h (scThs_ne p p.ts a1 q e ht)
      | on a2 =>
        change (match scThs p p.ts a1 with | .bad q e => (q, e) | .on _ => (0, 0)) = _ at h
        rw [ht] at h
        injection h with h _
        exact h.symm
theorem less_drop {p : Pr} (k : Nat) (h : typesCheck p = (0, 0)) : typesCheck (dropT p k) = (0, 0) := by
  refine types_less (p := p) (q := dropT p k) ⟨rfl, rfl, rfl⟩ h ?_ ?_ (fun t ht => ⟨t, mem_drop (p := p) (k := k) ht, [], by simp⟩)
  · show (p.ts.take k ++ p.ts.drop (k + 1)).length ≤ _
    rw [List.length_append, List.length_take, List.length_drop]; omega
  · show ((p.ts.take k ++ p.ts.drop (k + 1)).map _).sum ≤ _
    have e : p.ts.map (fun t => stCounts t.l) = (p.ts.take k).map (fun t => stCounts t.l) ++ (p.ts.drop k).map (fun t => stCounts t.l) := by rw [← List.map_append, List.take_append_drop]
    rw [List.map_append, List.sum_append, e, List.sum_append]
    have h2 : ((p.ts.drop (k + 1)).map fun t => stCounts t.l).sum ≤ ((p.ts.drop k).map fun t => stCounts t.l).sum := by
      rw [← List.drop_drop]
      cases p.ts.drop k with
      | nil => simp
      | cons x r => simp
    omega
theorem less_set {p : Pr} (k m : Nat) (t : Th) (ht : p.ts[k]? = some t) (h : typesCheck p = (0, 0)) : typesCheck ⟨p.rd, p.rs, p.sd, p.ss, p.fd, p.fs, p.td, cutTh p.ts k m t⟩ = (0, 0) := by
  refine types_less (p := p) (q := ⟨p.rd, p.rs, p.sd, p.ss, p.fd, p.fs, p.td, cutTh p.ts k m t⟩) ⟨rfl, rfl, rfl⟩ h (by simp) (sum_set _ _ _ _ _ ht (stCounts_take t.l m)) (fun u hu => ?_)
  rcases List.mem_or_eq_of_mem_set hu with hu | rfl
  · exact ⟨u, hu, [], by simp⟩
  · exact ⟨t, List.mem_of_getElem? ht, t.l.drop m, by simp⟩

set_option maxHeartbeats 16000000 in
set_option maxRecDepth 100000 in
theorem typesLess_walk (p : Pr) (k : Int) (w : World) (hk : i64ok k) (hI : PrIn w w.heap.size p) (G : TyG w.heap.size w) :
    Calls Tryd.prog 4 #[.agg p.cells.toArray, .int .i64 k] w fun e w' => e = .returned (.bool true) ∧ Below w.heap.size w w' := by
  have HG0 : Hid (∀ W', Below w.heap.size w W' → TyG W'.heap.size W') := Lib.hid fun W' hb => (G.below hb).1
  have HI0 : Hid (∀ W', Below w.heap.size w W' → PrIn W' W'.heap.size p) := Lib.hid fun W' hb => hI.keep hb hb.size
  obtain ⟨X, hX⟩ : ∃ X, w.heap.size = X := ⟨_, rfl⟩
  obtain ⟨w1, hw1⟩ : ∃ w1, w.alloc (prObj p) = w1 := ⟨_, rfl⟩
  have hb1 : Below w.heap.size w w1 := by rw [← hw1]; exact (Below.refl _ _).alloc (Nat.le_refl _) _
  have x1 : w1.heap[X]? = some (prObj p) := by rw [← hw1, ← hX]; exact heap_alloc_new w _
  have HX1 : Hid (∀ W', Below w1.heap.size w1 W' → W'.heap[X]? = some (prObj p)) := Lib.hid fun W' hb => (hb.block X (blk_lt x1)).trans x1
  have HBw : Hid (∀ W', Below w1.heap.size w1 W' → Below w.heap.size w W') := Lib.hid fun W' hb => hb1.trans (hb.mono hb1.size)
  have HG : Hid (∀ W', Below w1.heap.size w1 W' → TyG W'.heap.size W') := Lib.hid fun W' hb => HG0.out _ (HBw.out _ hb)
  have HI : Hid (∀ W', Below w1.heap.size w1 W' → PrIn W' W'.heap.size p) := Lib.hid fun W' hb => HI0.out _ (HBw.out _ hb)
  have HN := Lib.hid (And.intro hX hw1)
  have hrg := prSize_range p
  have C1 := Lib.hid (prsize_any p w1 (HI0.out _ hb1))
  have HBw1 : Hid (Below w1.heap.size w1 w1) := Lib.hid (Below.refl _ _)
  have q0 := cell_at x1 0
  have q1 := cell_at x1 1
  have q2 := cell_at x1 2
  have q3 := cell_at x1 3
  simp only [List.getElem?_toArray, List.getElem?_cons_zero, List.getElem?_cons_succ] at q0 q1 q2 q3
  rw [← hw1, ← hX] at q0 q1 q2 q3
  dsimp only [Pr.cells]
  by_cases hbig : 262144 < prSizeS p
  · have CB : Hid (∀ (b : Nat) (W : World), W.cell? ⟨b, 0, none⟩ = some (.int .i64 (prSizeS p)) → Calls Tryd.prog 7 #[.slice (some ⟨b, 0, none⟩) 1 1] W fun e w' => e = .returned (.bool true) ∧ W = w') := Lib.hid fun b W hc => by
      have h := beyond_any b 0 1 (prSizeS p) hrg.1 (by omega) W hc
      rwa [show decide (262144 < prSizeS p) = true by simpa using hbig] at h
    generalize prSizeS p = sz at *
    clear hX hw1 hb1 x1 hI G hrg hbig
    go_enter Tryd.func4, Tryd.ntmps4
    go_wp2_with fail
    simp only [HN.out.1, HN.out.2]
    refine C1.out.mono ?_
    rintro e w2 ⟨rfl, hb2⟩
    have HB2 := Lib.hid (HBw.out _ hb2)
    clear hb2 C1
    go_wp2_with fail
    refine (CB.out _ _ (cell_at (heap_alloc_new w2 _) 0)).mono ?_
    rintro e w3 ⟨rfl, rfl⟩
    have HZ : Hid (∀ o, Below w.heap.size w (w2.alloc o)) := Lib.hid fun o => HB2.out.alloc HB2.out.size o
    go_wp2_with fail
    go_ret
    exact ⟨rfl, HZ.out _⟩
  · have CB : Hid (∀ (b : Nat) (W : World), W.cell? ⟨b, 0, none⟩ = some (.int .i64 (prSizeS p)) → Calls Tryd.prog 7 #[.slice (some ⟨b, 0, none⟩) 1 1] W fun e w' => e = .returned (.bool false) ∧ W = w') := Lib.hid fun b W hc => by
      have h := beyond_any b 0 1 (prSizeS p) hrg.1 (by omega) W hc
      rwa [show decide (262144 < prSizeS p) = false by simpa using hbig] at h
    have hsm := prSize_small (p := p) (by omega)
    have HSm := Lib.hid hsm
    have HL : Hid (p.ts.length ≤ 262144) := Lib.hid (by have := hsm.heads; omega)
    generalize prSizeS p = sz at *
    clear hX hw1 hb1 x1 hI G hrg hbig hsm
    go_enter Tryd.func4, Tryd.ntmps4
    go_wp2_with fail
    simp only [HN.out.1, HN.out.2]
    refine C1.out.mono ?_
    rintro e w2 ⟨rfl, hb2⟩
    have HB2 := Lib.hid hb2
    clear hb2 C1 q0 q1 q2 q3
    go_wp2_with fail
    refine (CB.out _ _ (cell_at (heap_alloc_new w2 _) 0)).mono ?_
    rintro e w3 ⟨rfl, hw3⟩
    have hb3 : Below w1.heap.size w1 w3 := by rw [← hw3]; exact HB2.out.alloc HB2.out.size _
    have HBw3 := Lib.hid hb3
    have g3 := HG.out _ hb3
    have CC := Lib.hid (typesCheck_any w3.heap.size p w3 g3.gl g3.num (HI.out _ hb3))
    have row := HX1.out _ HBw3.out
    have q0 := cell_at row 0
    have q1 := cell_at row 1
    have q2 := cell_at row 2
    have q3 := cell_at row 3
    simp only [List.getElem?_toArray, List.getElem?_cons_zero, List.getElem?_cons_succ] at q0 q1 q2 q3
    clear row
    obtain ⟨at_, er, hT⟩ : ∃ a b, typesCheck p = (a, b) := ⟨_, _, rfl⟩
    rw [hT] at CC
    have HT := Lib.hid hT
    clear hb3 hw3 HB2 CB hT g3
    go_wp2_with fail
    refine CC.out.mono ?_
    rintro e w4 ⟨rfl, hb4⟩
    have HBw4 : Hid (Below w1.heap.size w1 w4) := Lib.hid (HBw3.out.trans (hb4.mono HBw3.out.size))
    clear hb4 CC q0 q1 q2 q3
    by_cases h0 : er = 0
    · subst h0
      have HT0 : Hid (typesCheck p = (0, 0)) := Lib.hid (by
        rw [HT.out, types_zero HT.out])
      clear HT
      have row := HX1.out _ HBw4.out
      have q0 := cell_at row 0
      have q1 := cell_at row 1
      have q2 := cell_at row 2
      have q3 := cell_at row 3
      simp only [List.getElem?_toArray, List.getElem?_cons_zero, List.getElem?_cons_succ] at q0 q1 q2 q3
      clear row
      by_cases hn0 : p.ts.length = 0
      · have d0 : ((p.ts.length : Int) == 0) = true := by simp [hn0]
        clear hn0
        go_wp2_with fail
        clear q0 q1 q2 q3
        refine (alive05_any w4 (HG.out _ HBw4.out)).mono ?_
        rintro e w99 ⟨rfl, hb⟩
        have HBz := Lib.hid ((HBw.out _ HBw4.out).trans (hb.mono (HBw.out _ HBw4.out).size))
        clear hb
        go_wp2_with fail
        go_ret
        exact ⟨rfl, HBz.out⟩
      · have d0 : ((p.ts.length : Int) == 0) = false := by simp; intro h; exact hn0 (by simp [h])
        have hnp : 0 < p.ts.length := by omega
        have htm := Int.natAbs_tmod k p.ts.length
        rw [Int.natAbs_natCast] at htm
        have hkk := Nat.mod_lt k.natAbs hnp
        rw [← htm] at hkk
        clear htm hnp
        have HW4 := Lib.hid (And.intro (HI.out _ HBw4.out) (HG.out _ HBw4.out))
        by_cases hneg : k.tmod p.ts.length < 0
        · obtain ⟨j, hj, hjn⟩ : ∃ j : Nat, k.tmod p.ts.length = -(j : Int) ∧ j < p.ts.length := ⟨_, by omega, hkk⟩
          have pj0 : 0 < j := by omega
          have d5 : decide (-(j : Int) < 0) = true := by simp; omega
          have CW := Lib.hid (without_any p j w4 HW4.out.1 HW4.out.2.gg HSm.out hjn)
          have CW : Hid (Calls Tryd.prog 14 #[p.val, .int .i64 j] w4 fun e w' => ∃ q : Pr, e = .returned q.val ∧ PrIn w' w'.heap.size q ∧ stripP q = stripP (dropT p j) ∧ Below w4.heap.size w4 w') := CW
          have Hj := Lib.hid hjn
          have pj : (j : Int) ≤ 262144 := by have := HL.out; omega
          clear HW4 hkk hneg hjn
          go_wp2_with fail
          clear d0 d5 hj
          clear q0 q1 q2 q3
          refine CW.out.mono ?_
          rintro e w5 ⟨q, rfl, hq5, hs5, hb5⟩
          have HBw5 : Hid (Below w1.heap.size w1 w5) := Lib.hid (HBw4.out.trans (hb5.mono HBw4.out.size))
          have g5 := HG.out _ HBw5.out
          have C5 := typesCheck_any w5.heap.size q w5 g5.gl g5.num hq5
          rw [(typesCheck_same hs5).trans (less_drop j HT0.out)] at C5
          have HC5 := Lib.hid C5
          clear CW hq5 hs5 hb5 g5 C5
          go_wp2_with fail
          refine HC5.out.mono ?_
          rintro e w6 ⟨rfl, hb6⟩
          have HBw6 : Hid (Below w1.heap.size w1 w6) := Lib.hid (HBw5.out.trans (hb6.mono HBw5.out.size))
          have g6 := HG.out _ HBw6.out
          have CT := Lib.hid (twinPr_any w6.heap.size p w6 (HI.out _ HBw6.out) (Nat.le_refl _) g6.gg HSm.out)
          have CT : Hid (Calls Tryd.prog 15 #[p.val] w6 fun e w' => ∃ q : Pr, e = .returned (.agg q.cells.toArray) ∧ stripP q = stripP p ∧ TnP w' w6.heap.size w'.heap.size q ∧ Below w6.heap.size w6 w') := CT
          have row := HX1.out _ HBw6.out
          have q0 := cell_at row 0
          have q1 := cell_at row 1
          have q2 := cell_at row 2
          have q3 := cell_at row 3
          simp only [List.getElem?_toArray, List.getElem?_cons_zero, List.getElem?_cons_succ] at q0 q1 q2 q3
          clear row
          clear HC5 hb6 g6
          go_wp2_with fail
          clear q0 q1 q2 q3
          refine CT.out.mono ?_
          rintro e w7 ⟨q2, rfl, hst, hTn, hb7⟩
          have hqi := hTn.inn
          have hql := strip_len hst
          obtain ⟨b, ha, hgb, hbB, hc, hat, -⟩ := hTn.ts.row
          obtain ⟨qrd, qrs, qsd, qss, qfd, qfs, ⟨A, cq⟩, qts⟩ := q2
          dsimp only at ha hc hql hat
          subst ha hc
          obtain ⟨Q, hQ⟩ : ∃ Q, w7.heap.size = Q := ⟨_, rfl⟩
          obtain ⟨w8, hw8⟩ : ∃ w8, w7.alloc (.cells #[.slice qrd.a qrs.length qrd.c, .slice qsd.a qss.length qsd.c, .slice qfd.a qfs.length qfd.c, .slice (some ⟨b, 0, none⟩) qts.length (qts.length + 2)] 27 (0, 0)) = w8 := ⟨_, rfl⟩
          have hb8 : Below w7.heap.size w7 w8 := by rw [← hw8]; exact (Below.refl _ _).alloc (Nat.le_refl _) _
          have x8 : w8.heap[Q]? = some (.cells #[.slice qrd.a qrs.length qrd.c, .slice qsd.a qss.length qsd.c, .slice qfd.a qfs.length qfd.c, .slice (some ⟨b, 0, none⟩) qts.length (qts.length + 2)] 27 (0, 0)) := by rw [← hw8, ← hQ]; exact heap_alloc_new w7 _
          have hjq : j < qts.length := by rw [hql]; exact Hj.out
          obtain ⟨t, ht⟩ : ∃ t, qts[j]? = some t := ⟨_, List.getElem?_eq_getElem hjq⟩
          obtain ⟨u, hu⟩ : ∃ u, p.ts[j]? = some u := ⟨_, List.getElem?_eq_getElem Hj.out⟩
          have hta := (hat j t ht).c0
          rw [Nat.mul_one] at hta
          have hta8 := (hb8.cell (p := ⟨b, j, none⟩) hbB).trans hta
          obtain ⟨b2, hda, -, -, hdc, -⟩ := (hTn.ts.sub t (List.mem_of_getElem? ht)).row
          have htl := (hTn.ts.sub t (List.mem_of_getElem? ht)).len
          have HBw8 : Hid (Below w1.heap.size w1 w8) := Lib.hid (HBw6.out.trans ((hb7.trans (hb8.mono hb7.size)).mono HBw6.out.size))
          have HB68 : Hid (Below w6.heap.size w6 w8) := Lib.hid (hb7.trans (hb8.mono hb7.size))
          have hq8 : PrIn w8 w8.heap.size ⟨qrd, qrs, qsd, qss, qfd, qfs, ⟨some ⟨b, 0, none⟩, qts.length + 2⟩, qts⟩ := hqi.keep hb8 hb8.size
          have hat8 : ∀ i y, qts[i]? = some y → ThAt w8 b (i * 1) y := fun i y hy => (hat i y hy).keep fun o => hb8.cell (p := ⟨b, o, none⟩) hbB
          have x0 := cell_at x8 0
          have x1 := cell_at x8 1
          have x2 := cell_at x8 2
          have x3 := cell_at x8 3
          simp only [List.getElem?_toArray, List.getElem?_cons_zero, List.getElem?_cons_succ] at x0 x1 x2 x3
          have pq : (j : Int) < (qts.length : Int) := by omega
          have pq2 : (qts.length : Int) ≤ 262144 := by have := HL.out; omega
          have pt : (t.l.length : Int) ≤ 1000000 := by omega
          obtain ⟨⟨ta, tc⟩, tl⟩ := t
          dsimp only at hda hdc htl hta hta8 pt
          subst hda hdc
          obtain ⟨bz, csz, hz1, -, -, hz4⟩ := hTn.ts.fz
          obtain rfl : b = bz := by injection hz1 with h; injection h
          have f8 := frz_at ((hb8.block b hbB).trans hz4) j
          have HQ8 := Lib.hid x8
          have HW8 := Lib.hid (And.intro hQ hw8)
          have X3 := Lib.hid x3
          have TA := Lib.hid hta8
          have HSt := Lib.hid hst
          have HJ := Lib.hid (And.intro ht hu)
          have HI8 := Lib.hid (And.intro hq8 hat8)
          have Hbb := Lib.hid (And.intro hgb hbB)
          have Hbb2 : Hid (b < w8.heap.size) := Lib.hid (by have := hb8.size; omega)
          dsimp only [Pr.cells]
          clear hst hTn hqi hql hat hta hb8 hb7 hq8 hat8 x8 hgb hbB ht hu hjq hz1 hz4
          by_cases hz : tl.length = 0
          · have dN : decide ((0 : Int) < (tl.length : Int)) = false := by simp [hz]
            have dN2 : decide (0 < tl.length) = false := by simp [hz]
            have g8 := HG.out _ HBw8.out
            have C8 := typesCheck_any w8.heap.size _ w8 g8.gl g8.num HI8.out.1
            rw [(typesCheck_same HSt.out).trans HT0.out] at C8
            have HC8 := Lib.hid C8
            rw [← hw8, ← hQ] at x0 x1 x2 x3; rw [← hw8] at hta8
            clear hz hQ hw8 g8 C8
            go_wp2_with fail
            simp only [HW8.out.1, HW8.out.2]
            clear x0 x1 x2 x3 hta8
            refine HC8.out.mono ?_
            rintro e w9 ⟨rfl, hb9⟩
            have HBw9 : Hid (Below w1.heap.size w1 w9) := Lib.hid (HBw8.out.trans (hb9.mono HBw8.out.size))
            clear hb9 HC8
            go_wp2_with fail
            refine (alive05_any w9 (HG.out _ HBw9.out)).mono ?_
            rintro e w99 ⟨rfl, hb⟩
            have HBz := Lib.hid ((HBw.out _ HBw9.out).trans (hb.mono (HBw.out _ HBw9.out).size))
            clear hb
            go_wp2_with fail
            go_ret
            exact ⟨rfl, HBz.out⟩
          · have dN : decide ((0 : Int) < (tl.length : Int)) = true := by simp; omega
            have dN1 : 0 < tl.length := by omega
            rw [← hw8, ← hQ] at x0 x1 x2 x3; rw [← hw8] at hta8
            clear hz hQ hw8
            have HWr : Hid (IntKind.i64.wrap ((tl.length : Int) - 1) = (tl.length : Int) - 1 ∧ (0 ≤ (tl.length : Int) - 1 ∧ (tl.length : Int) - 1 ≤ (tl.length : Int) + 2) ∧ ((tl.length : Int) - 1).toNat = tl.length - 1) := Lib.hid ⟨by rw [IntKind.wrap_i64]; omega, by omega, by omega⟩
            have HS8 : Hid (QtS Q b j qts.length b2 tl.length w8) := Lib.hid ⟨X3.out, TA.out⟩
            go_wp2_with fail
            simp only [HW8.out.1, HW8.out.2]
            clear x0 x1 x2 x3 hta8
            refine wp_region_L (l := 12) (S := (QtS Q b j qts.length b2 tl.length)) (by kernel_rfl) ?_ (fun hHeld => ?_)
            · ((try dsimp only); (exact HS8.out))
            refine wpAnyL_take (i := 0) (oi := _) (v := ?v1) rfl (by kernel_rfl) (fun _ _ _ h => h) (by assumption) (Or.inl ⟨by kernel_rfl, ?y1⟩) ?r1
            case y1 => (intro w hSw; (try dsimp only at hSw); go_simp; all_goals with_reducible rfl)
            try simp only [List.getElem_toArray, List.getElem_cons_zero, List.getElem_cons_succ, Act.put, List.setIfInBounds_toArray, List.set_cons_zero, List.set_cons_succ]
            refine wpAnyL_take (i := 1) (oi := _) (v := ?v2) rfl (by kernel_rfl) (fun _ _ _ h => h) (by assumption) (Or.inl ⟨by kernel_rfl, ?y2⟩) ?r2
            case y2 => (intro w hSw; (try dsimp only at hSw); go_simp; all_goals with_reducible rfl)
            try simp only [List.getElem_toArray, List.getElem_cons_zero, List.getElem_cons_succ, Act.put, List.setIfInBounds_toArray, List.set_cons_zero, List.set_cons_succ]
            refine wpAnyL_take (i := 2) (oi := _) (v := ?v3) rfl (by kernel_rfl) (fun _ _ _ h => h) (by assumption) (Or.inl ⟨by kernel_rfl, ?y3⟩) ?r3
            case y3 => (intro w hSw; (try dsimp only at hSw); go_simp; all_goals with_reducible rfl)
            try simp only [List.getElem_toArray, List.getElem_cons_zero, List.getElem_cons_succ, Act.put, List.setIfInBounds_toArray, List.set_cons_zero, List.set_cons_succ]
            refine wpAnyL_take (i := 3) (oi := _) (v := ?v4) rfl (by kernel_rfl) (fun _ _ _ h => h) (by assumption) (Or.inl ⟨by kernel_rfl, ?y4⟩) ?r4
            case y4 => (intro w hSw; (try dsimp only at hSw); go_simp; all_goals with_reducible rfl)
            try simp only [List.getElem_toArray, List.getElem_cons_zero, List.getElem_cons_succ, Act.put, List.setIfInBounds_toArray, List.set_cons_zero, List.set_cons_succ]
            refine wpAnyL_take (i := 4) (oi := _) (v := ?v5) rfl (by kernel_rfl) (fun _ _ _ h => h) (by assumption) (Or.inl ⟨by kernel_rfl, ?y5⟩) ?r5
            case y5 => (intro w hSw; (try dsimp only at hSw); go_simp; all_goals with_reducible rfl)
            try simp only [List.getElem_toArray, List.getElem_cons_zero, List.getElem_cons_succ, Act.put, List.setIfInBounds_toArray, List.set_cons_zero, List.set_cons_succ]
            refine wpAnyL_take (i := 5) (oi := _) (v := ?v6) rfl (by kernel_rfl) (fun _ _ _ h => h) (by assumption) (Or.inl ⟨by kernel_rfl, ?y6⟩) ?r6
            case y6 => (intro w hSw; (try dsimp only at hSw); go_simp; all_goals with_reducible rfl)
            try simp only [List.getElem_toArray, List.getElem_cons_zero, List.getElem_cons_succ, Act.put, List.setIfInBounds_toArray, List.set_cons_zero, List.set_cons_succ]
            refine wpAnyL_take (i := 6) (oi := _) (v := ?v7) rfl (by kernel_rfl) (fun _ _ _ h => h) (by assumption) (Or.inl ⟨by kernel_rfl, ?y7⟩) ?r7
            case y7 => (intro w hSw; (try dsimp only at hSw); go_simp; all_goals with_reducible rfl)
            try simp only [List.getElem_toArray, List.getElem_cons_zero, List.getElem_cons_succ, Act.put, List.setIfInBounds_toArray, List.set_cons_zero, List.set_cons_succ]
            refine wpAnyL_take (i := 7) (oi := _) (v := ?v8) rfl (by kernel_rfl) (fun _ _ _ h => h) (by assumption) (Or.inl ⟨by kernel_rfl, ?y8⟩) ?r8
            case y8 => (intro w hSw; (try dsimp only at hSw); go_simp; all_goals with_reducible rfl)
            try simp only [List.getElem_toArray, List.getElem_cons_zero, List.getElem_cons_succ, Act.put, List.setIfInBounds_toArray, List.set_cons_zero, List.set_cons_succ]
            refine wpAnyL_take (i := 8) (oi := _) (v := ?v9) rfl (by kernel_rfl) (fun _ _ _ h => h) (by assumption) (Or.inl ⟨by kernel_rfl, ?y9⟩) ?r9
            case y9 => (intro w hSw; (try dsimp only at hSw); go_simp; all_goals with_reducible rfl)
            try simp only [List.getElem_toArray, List.getElem_cons_zero, List.getElem_cons_succ, Act.put, List.setIfInBounds_toArray, List.set_cons_zero, List.set_cons_succ]
            refine wpAnyL_take (i := 9) (oi := _) (v := ?v10) rfl (by kernel_rfl) (fun _ _ _ h => h) (by assumption) (Or.inl ⟨by kernel_rfl, ?y10⟩) ?r10
            case y10 => (intro w hSw; (try dsimp only at hSw); go_simp; all_goals with_reducible rfl)
            try simp only [List.getElem_toArray, List.getElem_cons_zero, List.getElem_cons_succ, Act.put, List.setIfInBounds_toArray, List.set_cons_zero, List.set_cons_succ]
            refine wpAnyL_take (i := 10) (oi := _) (v := ?v11) rfl (by kernel_rfl) (fun _ _ _ h => h) (by assumption) (Or.inl ⟨by kernel_rfl, ?y11⟩) ?r11
            case y11 => (intro w hSw; (try dsimp only at hSw); go_simp; rw [HWr.out.1, if_pos HWr.out.2.1, HWr.out.2.2])
            try simp only [List.getElem_toArray, List.getElem_cons_zero, List.getElem_cons_succ, Act.put, List.setIfInBounds_toArray, List.set_cons_zero, List.set_cons_succ]
            refine wpAnyL_take (i := 11) (oi := _) (v := ?v12) rfl (by kernel_rfl) (fun _ _ _ h => h) (by assumption) (Or.inl ⟨by kernel_rfl, ?y12⟩) ?r12
            case y12 => (intro w hSw; (try dsimp only at hSw); go_simp; all_goals with_reducible rfl)
            try simp only [List.getElem_toArray, List.getElem_cons_zero, List.getElem_cons_succ, Act.put, List.setIfInBounds_toArray, List.set_cons_zero, List.set_cons_succ]
            refine wpAnyL_last (j := 12) (o := _) (by kernel_rfl) rfl (by rfl) (by kernel_rfl) (fun K hK => ?_)
            go_simp
            (refine hK _ _ ?_; clear hK K)
            try simp only [List.getElem_toArray, List.getElem_cons_zero, List.getElem_cons_succ, Act.put, List.setIfInBounds_toArray, List.set_cons_zero, List.set_cons_succ]
            clear hHeld HS8 f8 dN dN1
            obtain ⟨w9, hw9⟩ : ∃ w9, (w8.setCell ⟨b, j, none⟩ (.slice (some ⟨b2, 0, none⟩) (tl.length - 1) (tl.length + 2))).drew = w9 := ⟨_, rfl⟩
            have hlm : (tl.take (tl.length - 1)).length = tl.length - 1 := by rw [List.length_take]; omega
            have hp9 := HI8.out.1.setT (k := j) (m := tl.length - 1) Hbb2.out rfl HI8.out.2 HJ.out.1
            dsimp only at hp9
            rw [hlm] at hp9
            have hp9 := hp9.keep (w' := w9) (B' := w9.heap.size) (by rw [← hw9]; exact (Below.refl _ _).drew) (by rw [← hw9]; exact Nat.le_of_eq (by simp))
            have hb69 : Below w6.heap.size w6 w9 := by rw [← hw9]; exact (HB68.out.setCell (p := ⟨b, j, none⟩) Hbb.out.1 _).drew
            have HBw9 : Hid (Below w1.heap.size w1 w9) := Lib.hid (HBw6.out.trans (hb69.mono HBw6.out.size))
            have g9 := HG.out _ HBw9.out
            have C9 := typesCheck_any w9.heap.size _ w9 g9.gl g9.num hp9
            rw [(typesCheck_same (strip_set HSt.out j (tl.length - 1) _ u HJ.out.1 HJ.out.2)).trans (less_set j (tl.length - 1) u HJ.out.2 HT0.out)] at C9
            dsimp only [Pr.val] at C9
            rw [List.length_set] at C9
            have HC9 := Lib.hid C9
            have hbq : ∀ o, (⟨Q, o, none⟩ : Addr) ≠ ⟨b, j, none⟩ := fun o e => by
              have h1 : Q = b := by injection e
              have h2 := HW8.out.1
              have h3 := Hbb.out.2
              omega
            have hc9 : ∀ o, w9.cell? ⟨Q, o, none⟩ = w8.cell? ⟨Q, o, none⟩ := fun o => by
              rw [← hw9]
              exact World.cell?_setCell_other _ _ _ _ (by first | exact hbq o | exact (hbq o).symm)
            have x0 := (hc9 0).trans (cell_at HQ8.out 0)
            have x1 := (hc9 1).trans (cell_at HQ8.out 1)
            have x2 := (hc9 2).trans (cell_at HQ8.out 2)
            have x3 := (hc9 3).trans (cell_at HQ8.out 3)
            simp only [List.getElem?_toArray, List.getElem?_cons_zero, List.getElem?_cons_succ] at x0 x1 x2 x3
            have HW9 := Lib.hid hw9
            clear hw9 hlm hp9 hb69 g9 C9 hbq hc9
            simp only [HW9.out]
            go_wp2_with fail
            clear x0 x1 x2 x3
            refine HC9.out.mono ?_
            rintro e w10 ⟨rfl, hb10⟩
            have HBw10 : Hid (Below w1.heap.size w1 w10) := Lib.hid (HBw9.out.trans (hb10.mono HBw9.out.size))
            clear hb10 HC9
            go_wp2_with fail
            refine (alive05_any w10 (HG.out _ HBw10.out)).mono ?_
            rintro e w99 ⟨rfl, hb⟩
            have HBz := Lib.hid ((HBw.out _ HBw10.out).trans (hb.mono (HBw.out _ HBw10.out).size))
            clear hb
            go_wp2_with fail
            go_ret
            exact ⟨rfl, HBz.out⟩
        · obtain ⟨j, hj, hjn⟩ : ∃ j : Nat, k.tmod p.ts.length = (j : Int) ∧ j < p.ts.length := ⟨_, by omega, hkk⟩
          have d5 : decide ((j : Int) < 0) = false := by simp
          have CW := Lib.hid (without_any p j w4 HW4.out.1 HW4.out.2.gg HSm.out hjn)
          have CW : Hid (Calls Tryd.prog 14 #[p.val, .int .i64 j] w4 fun e w' => ∃ q : Pr, e = .returned q.val ∧ PrIn w' w'.heap.size q ∧ stripP q = stripP (dropT p j) ∧ Below w4.heap.size w4 w') := CW
          have Hj := Lib.hid hjn
          have pj : (j : Int) ≤ 262144 := by have := HL.out; omega
          clear HW4 hkk hneg hjn
          go_wp2_with fail
          clear d0 d5 hj
          clear q0 q1 q2 q3
          refine CW.out.mono ?_
          rintro e w5 ⟨q, rfl, hq5, hs5, hb5⟩
          have HBw5 : Hid (Below w1.heap.size w1 w5) := Lib.hid (HBw4.out.trans (hb5.mono HBw4.out.size))
          have g5 := HG.out _ HBw5.out
          have C5 := typesCheck_any w5.heap.size q w5 g5.gl g5.num hq5
          rw [(typesCheck_same hs5).trans (less_drop j HT0.out)] at C5
          have HC5 := Lib.hid C5
          clear CW hq5 hs5 hb5 g5 C5
          go_wp2_with fail
          refine HC5.out.mono ?_
          rintro e w6 ⟨rfl, hb6⟩
          have HBw6 : Hid (Below w1.heap.size w1 w6) := Lib.hid (HBw5.out.trans (hb6.mono HBw5.out.size))
          have g6 := HG.out _ HBw6.out
          have CT := Lib.hid (twinPr_any w6.heap.size p w6 (HI.out _ HBw6.out) (Nat.le_refl _) g6.gg HSm.out)
          have CT : Hid (Calls Tryd.prog 15 #[p.val] w6 fun e w' => ∃ q : Pr, e = .returned (.agg q.cells.toArray) ∧ stripP q = stripP p ∧ TnP w' w6.heap.size w'.heap.size q ∧ Below w6.heap.size w6 w') := CT
          have row := HX1.out _ HBw6.out
          have q0 := cell_at row 0
          have q1 := cell_at row 1
          have q2 := cell_at row 2
          have q3 := cell_at row 3
          simp only [List.getElem?_toArray, List.getElem?_cons_zero, List.getElem?_cons_succ] at q0 q1 q2 q3
          clear row
          clear HC5 hb6 g6
          go_wp2_with fail
          clear q0 q1 q2 q3
          refine CT.out.mono ?_
          rintro e w7 ⟨q2, rfl, hst, hTn, hb7⟩
          have hqi := hTn.inn
          have hql := strip_len hst
          obtain ⟨b, ha, hgb, hbB, hc, hat, -⟩ := hTn.ts.row
          obtain ⟨qrd, qrs, qsd, qss, qfd, qfs, ⟨A, cq⟩, qts⟩ := q2
          dsimp only at ha hc hql hat
          subst ha hc
          obtain ⟨Q, hQ⟩ : ∃ Q, w7.heap.size = Q := ⟨_, rfl⟩
          obtain ⟨w8, hw8⟩ : ∃ w8, w7.alloc (.cells #[.slice qrd.a qrs.length qrd.c, .slice qsd.a qss.length qsd.c, .slice qfd.a qfs.length qfd.c, .slice (some ⟨b, 0, none⟩) qts.length (qts.length + 2)] 27 (0, 0)) = w8 := ⟨_, rfl⟩
          have hb8 : Below w7.heap.size w7 w8 := by rw [← hw8]; exact (Below.refl _ _).alloc (Nat.le_refl _) _
          have x8 : w8.heap[Q]? = some (.cells #[.slice qrd.a qrs.length qrd.c, .slice qsd.a qss.length qsd.c, .slice qfd.a qfs.length qfd.c, .slice (some ⟨b, 0, none⟩) qts.length (qts.length + 2)] 27 (0, 0)) := by rw [← hw8, ← hQ]; exact heap_alloc_new w7 _
          have hjq : j < qts.length := by rw [hql]; exact Hj.out
          obtain ⟨t, ht⟩ : ∃ t, qts[j]? = some t := ⟨_, List.getElem?_eq_getElem hjq⟩
          obtain ⟨u, hu⟩ : ∃ u, p.ts[j]? = some u := ⟨_, List.getElem?_eq_getElem Hj.out⟩
          have hta := (hat j t ht).c0
          rw [Nat.mul_one] at hta
          have hta8 := (hb8.cell (p := ⟨b, j, none⟩) hbB).trans hta
          obtain ⟨b2, hda, -, -, hdc, -⟩ := (hTn.ts.sub t (List.mem_of_getElem? ht)).row
          have htl := (hTn.ts.sub t (List.mem_of_getElem? ht)).len
          have HBw8 : Hid (Below w1.heap.size w1 w8) := Lib.hid (HBw6.out.trans ((hb7.trans (hb8.mono hb7.size)).mono HBw6.out.size))
          have HB68 : Hid (Below w6.heap.size w6 w8) := Lib.hid (hb7.trans (hb8.mono hb7.size))
          have hq8 : PrIn w8 w8.heap.size ⟨qrd, qrs, qsd, qss, qfd, qfs, ⟨some ⟨b, 0, none⟩, qts.length + 2⟩, qts⟩ := hqi.keep hb8 hb8.size
          have hat8 : ∀ i y, qts[i]? = some y → ThAt w8 b (i * 1) y := fun i y hy => (hat i y hy).keep fun o => hb8.cell (p := ⟨b, o, none⟩) hbB
          have x0 := cell_at x8 0
          have x1 := cell_at x8 1
          have x2 := cell_at x8 2
          have x3 := cell_at x8 3
          simp only [List.getElem?_toArray, List.getElem?_cons_zero, List.getElem?_cons_succ] at x0 x1 x2 x3
          have pq : (j : Int) < (qts.length : Int) := by omega
          have pq2 : (qts.length : Int) ≤ 262144 := by have := HL.out; omega
          have pt : (t.l.length : Int) ≤ 1000000 := by omega
          obtain ⟨⟨ta, tc⟩, tl⟩ := t
          dsimp only at hda hdc htl hta hta8 pt
          subst hda hdc
          obtain ⟨bz, csz, hz1, -, -, hz4⟩ := hTn.ts.fz
          obtain rfl : b = bz := by injection hz1 with h; injection h
          have f8 := frz_at ((hb8.block b hbB).trans hz4) j
          have HQ8 := Lib.hid x8
          have HW8 := Lib.hid (And.intro hQ hw8)
          have X3 := Lib.hid x3
          have TA := Lib.hid hta8
          have HSt := Lib.hid hst
          have HJ := Lib.hid (And.intro ht hu)
          have HI8 := Lib.hid (And.intro hq8 hat8)
          have Hbb := Lib.hid (And.intro hgb hbB)
          have Hbb2 : Hid (b < w8.heap.size) := Lib.hid (by have := hb8.size; omega)
          dsimp only [Pr.cells]
          clear hst hTn hqi hql hat hta hb8 hb7 hq8 hat8 x8 hgb hbB ht hu hjq hz1 hz4
          by_cases hz : tl.length = 0
          · have dN : decide ((0 : Int) < (tl.length : Int)) = false := by simp [hz]
            have dN2 : decide (0 < tl.length) = false := by simp [hz]
            have g8 := HG.out _ HBw8.out
            have C8 := typesCheck_any w8.heap.size _ w8 g8.gl g8.num HI8.out.1
            rw [(typesCheck_same HSt.out).trans HT0.out] at C8
            have HC8 := Lib.hid C8
            rw [← hw8, ← hQ] at x0 x1 x2 x3; rw [← hw8] at hta8
            clear hz hQ hw8 g8 C8
            go_wp2_with fail
            simp only [HW8.out.1, HW8.out.2]
            clear x0 x1 x2 x3 hta8
            refine HC8.out.mono ?_
            rintro e w9 ⟨rfl, hb9⟩
            have HBw9 : Hid (Below w1.heap.size w1 w9) := Lib.hid (HBw8.out.trans (hb9.mono HBw8.out.size))
            clear hb9 HC8
            go_wp2_with fail
            refine (alive05_any w9 (HG.out _ HBw9.out)).mono ?_
            rintro e w99 ⟨rfl, hb⟩
            have HBz := Lib.hid ((HBw.out _ HBw9.out).trans (hb.mono (HBw.out _ HBw9.out).size))
            clear hb
            go_wp2_with fail
            go_ret
            exact ⟨rfl, HBz.out⟩
          · have dN : decide ((0 : Int) < (tl.length : Int)) = true := by simp; omega
            have dN1 : 0 < tl.length := by omega
            rw [← hw8, ← hQ] at x0 x1 x2 x3; rw [← hw8] at hta8
            clear hz hQ hw8
            have HWr : Hid (IntKind.i64.wrap ((tl.length : Int) - 1) = (tl.length : Int) - 1 ∧ (0 ≤ (tl.length : Int) - 1 ∧ (tl.length : Int) - 1 ≤ (tl.length : Int) + 2) ∧ ((tl.length : Int) - 1).toNat = tl.length - 1) := Lib.hid ⟨by rw [IntKind.wrap_i64]; omega, by omega, by omega⟩
            have HS8 : Hid (QtS Q b j qts.length b2 tl.length w8) := Lib.hid ⟨X3.out, TA.out⟩
            go_wp2_with fail
            simp only [HW8.out.1, HW8.out.2]
            clear x0 x1 x2 x3 hta8
            refine wp_region_L (l := 12) (S := (QtS Q b j qts.length b2 tl.length)) (by kernel_rfl) ?_ (fun hHeld => ?_)
            · ((try dsimp only); (exact HS8.out))
            refine wpAnyL_take (i := 0) (oi := _) (v := ?v14) rfl (by kernel_rfl) (fun _ _ _ h => h) (by assumption) (Or.inl ⟨by kernel_rfl, ?y14⟩) ?r14
            case y14 => (intro w hSw; (try dsimp only at hSw); go_simp; all_goals with_reducible rfl)
            try simp only [List.getElem_toArray, List.getElem_cons_zero, List.getElem_cons_succ, Act.put, List.setIfInBounds_toArray, List.set_cons_zero, List.set_cons_succ]
            refine wpAnyL_take (i := 1) (oi := _) (v := ?v15) rfl (by kernel_rfl) (fun _ _ _ h => h) (by assumption) (Or.inl ⟨by kernel_rfl, ?y15⟩) ?r15
            case y15 => (intro w hSw; (try dsimp only at hSw); go_simp; all_goals with_reducible rfl)
            try simp only [List.getElem_toArray, List.getElem_cons_zero, List.getElem_cons_succ, Act.put, List.setIfInBounds_toArray, List.set_cons_zero, List.set_cons_succ]
            refine wpAnyL_take (i := 2) (oi := _) (v := ?v16) rfl (by kernel_rfl) (fun _ _ _ h => h) (by assumption) (Or.inl ⟨by kernel_rfl, ?y16⟩) ?r16
            case y16 => (intro w hSw; (try dsimp only at hSw); go_simp; all_goals with_reducible rfl)
            try simp only [List.getElem_toArray, List.getElem_cons_zero, List.getElem_cons_succ, Act.put, List.setIfInBounds_toArray, List.set_cons_zero, List.set_cons_succ]
            refine wpAnyL_take (i := 3) (oi := _) (v := ?v17) rfl (by kernel_rfl) (fun _ _ _ h => h) (by assumption) (Or.inl ⟨by kernel_rfl, ?y17⟩) ?r17
            case y17 => (intro w hSw; (try dsimp only at hSw); go_simp; all_goals with_reducible rfl)
            try simp only [List.getElem_toArray, List.getElem_cons_zero, List.getElem_cons_succ, Act.put, List.setIfInBounds_toArray, List.set_cons_zero, List.set_cons_succ]
            refine wpAnyL_take (i := 4) (oi := _) (v := ?v18) rfl (by kernel_rfl) (fun _ _ _ h => h) (by assumption) (Or.inl ⟨by kernel_rfl, ?y18⟩) ?r18
            case y18 => (intro w hSw; (try dsimp only at hSw); go_simp; all_goals with_reducible rfl)
            try simp only [List.getElem_toArray, List.getElem_cons_zero, List.getElem_cons_succ, Act.put, List.setIfInBounds_toArray, List.set_cons_zero, List.set_cons_succ]
            refine wpAnyL_take (i := 5) (oi := _) (v := ?v19) rfl (by kernel_rfl) (fun _ _ _ h => h) (by assumption) (Or.inl ⟨by kernel_rfl, ?y19⟩) ?r19
            case y19 => (intro w hSw; (try dsimp only at hSw); go_simp; all_goals with_reducible rfl)
            try simp only [List.getElem_toArray, List.getElem_cons_zero, List.getElem_cons_succ, Act.put, List.setIfInBounds_toArray, List.set_cons_zero, List.set_cons_succ]
            refine wpAnyL_take (i := 6) (oi := _) (v := ?v20) rfl (by kernel_rfl) (fun _ _ _ h => h) (by assumption) (Or.inl ⟨by kernel_rfl, ?y20⟩) ?r20
            case y20 => (intro w hSw; (try dsimp only at hSw); go_simp; all_goals with_reducible rfl)
            try simp only [List.getElem_toArray, List.getElem_cons_zero, List.getElem_cons_succ, Act.put, List.setIfInBounds_toArray, List.set_cons_zero, List.set_cons_succ]
            refine wpAnyL_take (i := 7) (oi := _) (v := ?v21) rfl (by kernel_rfl) (fun _ _ _ h => h) (by assumption) (Or.inl ⟨by kernel_rfl, ?y21⟩) ?r21
            case y21 => (intro w hSw; (try dsimp only at hSw); go_simp; all_goals with_reducible rfl)
            try simp only [List.getElem_toArray, List.getElem_cons_zero, List.getElem_cons_succ, Act.put, List.setIfInBounds_toArray, List.set_cons_zero, List.set_cons_succ]
            refine wpAnyL_take (i := 8) (oi := _) (v := ?v22) rfl (by kernel_rfl) (fun _ _ _ h => h) (by assumption) (Or.inl ⟨by kernel_rfl, ?y22⟩) ?r22
            case y22 => (intro w hSw; (try dsimp only at hSw); go_simp; all_goals with_reducible rfl)
            try simp only [List.getElem_toArray, List.getElem_cons_zero, List.getElem_cons_succ, Act.put, List.setIfInBounds_toArray, List.set_cons_zero, List.set_cons_succ]
            refine wpAnyL_take (i := 9) (oi := _) (v := ?v23) rfl (by kernel_rfl) (fun _ _ _ h => h) (by assumption) (Or.inl ⟨by kernel_rfl, ?y23⟩) ?r23
            case y23 => (intro w hSw; (try dsimp only at hSw); go_simp; all_goals with_reducible rfl)
            try simp only [List.getElem_toArray, List.getElem_cons_zero, List.getElem_cons_succ, Act.put, List.setIfInBounds_toArray, List.set_cons_zero, List.set_cons_succ]
            refine wpAnyL_take (i := 10) (oi := _) (v := ?v24) rfl (by kernel_rfl) (fun _ _ _ h => h) (by assumption) (Or.inl ⟨by kernel_rfl, ?y24⟩) ?r24
            case y24 => (intro w hSw; (try dsimp only at hSw); go_simp; rw [HWr.out.1, if_pos HWr.out.2.1, HWr.out.2.2])
            try simp only [List.getElem_toArray, List.getElem_cons_zero, List.getElem_cons_succ, Act.put, List.setIfInBounds_toArray, List.set_cons_zero, List.set_cons_succ]
            refine wpAnyL_take (i := 11) (oi := _) (v := ?v25) rfl (by kernel_rfl) (fun _ _ _ h => h) (by assumption) (Or.inl ⟨by kernel_rfl, ?y25⟩) ?r25
            case y25 => (intro w hSw; (try dsimp only at hSw); go_simp; all_goals with_reducible rfl)
            try simp only [List.getElem_toArray, List.getElem_cons_zero, List.getElem_cons_succ, Act.put, List.setIfInBounds_toArray, List.set_cons_zero, List.set_cons_succ]
            refine wpAnyL_last (j := 12) (o := _) (by kernel_rfl) rfl (by rfl) (by kernel_rfl) (fun K hK => ?_)
            go_simp
            (refine hK _ _ ?_; clear hK K)
            try simp only [List.getElem_toArray, List.getElem_cons_zero, List.getElem_cons_succ, Act.put, List.setIfInBounds_toArray, List.set_cons_zero, List.set_cons_succ]
            clear hHeld HS8 f8 dN dN1
            obtain ⟨w9, hw9⟩ : ∃ w9, (w8.setCell ⟨b, j, none⟩ (.slice (some ⟨b2, 0, none⟩) (tl.length - 1) (tl.length + 2))).drew = w9 := ⟨_, rfl⟩
            have hlm : (tl.take (tl.length - 1)).length = tl.length - 1 := by rw [List.length_take]; omega
            have hp9 := HI8.out.1.setT (k := j) (m := tl.length - 1) Hbb2.out rfl HI8.out.2 HJ.out.1
            dsimp only at hp9
            rw [hlm] at hp9
            have hp9 := hp9.keep (w' := w9) (B' := w9.heap.size) (by rw [← hw9]; exact (Below.refl _ _).drew) (by rw [← hw9]; exact Nat.le_of_eq (by simp))
            have hb69 : Below w6.heap.size w6 w9 := by rw [← hw9]; exact (HB68.out.setCell (p := ⟨b, j, none⟩) Hbb.out.1 _).drew
            have HBw9 : Hid (Below w1.heap.size w1 w9) := Lib.hid (HBw6.out.trans (hb69.mono HBw6.out.size))
            have g9 := HG.out _ HBw9.out
            have C9 := typesCheck_any w9.heap.size _ w9 g9.gl g9.num hp9
            rw [(typesCheck_same (strip_set HSt.out j (tl.length - 1) _ u HJ.out.1 HJ.out.2)).trans (less_set j (tl.length - 1) u HJ.out.2 HT0.out)] at C9
            dsimp only [Pr.val] at C9
            rw [List.length_set] at C9
            have HC9 := Lib.hid C9
            have hbq : ∀ o, (⟨Q, o, none⟩ : Addr) ≠ ⟨b, j, none⟩ := fun o e => by
              have h1 : Q = b := by injection e
              have h2 := HW8.out.1
              have h3 := Hbb.out.2
              omega
            have hc9 : ∀ o, w9.cell? ⟨Q, o, none⟩ = w8.cell? ⟨Q, o, none⟩ := fun o => by
              rw [← hw9]
              exact World.cell?_setCell_other _ _ _ _ (by first | exact hbq o | exact (hbq o).symm)
            have x0 := (hc9 0).trans (cell_at HQ8.out 0)
            have x1 := (hc9 1).trans (cell_at HQ8.out 1)
            have x2 := (hc9 2).trans (cell_at HQ8.out 2)
            have x3 := (hc9 3).trans (cell_at HQ8.out 3)
            simp only [List.getElem?_toArray, List.getElem?_cons_zero, List.getElem?_cons_succ] at x0 x1 x2 x3
            have HW9 := Lib.hid hw9
            clear hw9 hlm hp9 hb69 g9 C9 hbq hc9
            simp only [HW9.out]
            go_wp2_with fail
            clear x0 x1 x2 x3
            refine HC9.out.mono ?_
            rintro e w10 ⟨rfl, hb10⟩
            have HBw10 : Hid (Below w1.heap.size w1 w10) := Lib.hid (HBw9.out.trans (hb10.mono HBw9.out.size))
            clear hb10 HC9
            go_wp2_with fail
            refine (alive05_any w10 (HG.out _ HBw10.out)).mono ?_
            rintro e w99 ⟨rfl, hb⟩
            have HBz := Lib.hid ((HBw.out _ HBw10.out).trans (hb.mono (HBw.out _ HBw10.out).size))
            clear hb
            go_wp2_with fail
            go_ret
            exact ⟨rfl, HBz.out⟩
    · have e0 : (er == 0) = false := by simpa using h0
      have e1 : (er != 0) = true := by simp [h0]
      have e2 : decide (er = 0) = false := by simpa using h0
      go_wp2_with fail
      clear h0 e0 e1 e2
      refine (alive05_any w4 (HG.out _ HBw4.out)).mono ?_
      rintro e w99 ⟨rfl, hb⟩
      have HBz := Lib.hid ((HBw.out _ HBw4.out).trans (hb.mono (HBw.out _ HBw4.out).size))
      clear hb
      go_wp2_with fail
      go_ret
      exact ⟨rfl, HBz.out⟩
end Go.Proofs.YtkklogikakcanaaDoor
