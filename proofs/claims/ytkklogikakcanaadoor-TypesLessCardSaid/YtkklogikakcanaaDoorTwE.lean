/-
  Twins: records, functions, threads, programs.
-/
import Derived.Test.YtkklogikakcanaaDoorTwC
set_option linter.unusedVariables false
set_option linter.unusedSimpArgs false
namespace Go.Proofs.YtkklogikakcanaaDoor
open Go Go.RowKit Go.Sort

theorem infoRe : (Tryd.prog.info? 52).map (fun i => (i.zero, i.size, i.bytes)) = some (some (.agg #[.string ⟨#[]⟩, .slice none 0 0]), 2, 40) := by kernel_rfl
theorem infoFu : (Tryd.prog.info? 43).map (fun i => (i.zero, i.size, i.bytes)) = some (some (.agg #[.string ⟨#[]⟩, .slice none 0 0, .int .u8 0, .string ⟨#[]⟩, .int .i64 0, .slice none 0 0]), 6, 96) := by kernel_rfl
theorem infoRow : (Tryd.prog.info? 41).map (fun i => (i.zero, i.size, i.bytes)) = some (some (.slice none 0 0), 1, 24) := by kernel_rfl
structure TnR (w : World) (g B : Nat) (r : Re) : Prop where
  nm : lenOk r.nm.length
  fs : TnFs w g B r.d r.fs
structure TnU (w : World) (g B : Nat) (f : Fu) : Prop where
  nm : lenOk f.nm.length
  ps : TnFs w g B f.pd f.ps
  t : f.t.Ok
  body : TnSs w g B f.bd f.body
abbrev TnT (w : World) (g B : Nat) (t : Th) : Prop := TnSs w g B t.d t.l
theorem TnR.keep {w w' : World} {g g' B B' : Nat} {r : Re} (h : TnR w g B r) (hk : ∀ b, g ≤ b → b < B → w'.heap[b]? = w.heap[b]?) (hg : g' ≤ g) (hB : B ≤ B') : TnR w' g' B' r := ⟨h.nm, h.fs.keep hk hg hB⟩
theorem TnU.keep {w w' : World} {g g' B B' : Nat} {r : Fu} (h : TnU w g B r) (hk : ∀ b, g ≤ b → b < B → w'.heap[b]? = w.heap[b]?) (hg : g' ≤ g) (hB : B ≤ B') : TnU w' g' B' r := ⟨h.nm, h.ps.keep hk hg hB, h.t, h.body.keep hk hg hB⟩
structure ResIn (w : World) (B : Nat) (d : Hd) (l : List Re) : Prop where
  len : lenOk l.length
  row : RowIn ReAt 2 w B d l
  sub : ∀ r, r ∈ l → ReIn w B r
structure FusIn (w : World) (B : Nat) (d : Hd) (l : List Fu) : Prop where
  len : lenOk l.length
  row : RowIn FuAt 6 w B d l
  sub : ∀ r, r ∈ l → FuIn w B r
structure ThsIn (w : World) (B : Nat) (d : Hd) (l : List Th) : Prop where
  len : lenOk l.length
  row : RowIn ThAt 1 w B d l
  sub : ∀ r, r ∈ l → StsIn w B r.d r.l
theorem ResIn.keep {w w' : World} {B B' : Nat} {d : Hd} {l : List Re} (h : ResIn w B d l) (hb : Below B w w') (hB : B ≤ B') : ResIn w' B' d l := ⟨h.len, h.row.keep (fun _ _ _ h hk => h.keep hk) hb hB, fun s hs => (h.sub s hs).keep hb hB⟩
theorem FusIn.keep {w w' : World} {B B' : Nat} {d : Hd} {l : List Fu} (h : FusIn w B d l) (hb : Below B w w') (hB : B ≤ B') : FusIn w' B' d l := ⟨h.len, h.row.keep (fun _ _ _ h hk => h.keep hk) hb hB, fun s hs => (h.sub s hs).keep hb hB⟩
theorem ThsIn.keep {w w' : World} {B B' : Nat} {d : Hd} {l : List Th} (h : ThsIn w B d l) (hb : Below B w w') (hB : B ≤ B') : ThsIn w' B' d l := ⟨h.len, h.row.keep (fun _ _ _ h hk => h.keep hk) hb hB, fun s hs => (h.sub s hs).keep hb hB⟩
structure TnRs (w : World) (g B : Nat) (d : Hd) (l : List Re) : Prop where
  len : l.length ≤ 1000000
  row : TnRow ReAt 2 markR w g B d l
  sub : ∀ y, y ∈ l → TnR w g B y
structure TnUs (w : World) (g B : Nat) (d : Hd) (l : List Fu) : Prop where
  len : l.length ≤ 1000000
  row : TnRow FuAt 6 markU w g B d l
  sub : ∀ y, y ∈ l → TnU w g B y
theorem TnRs.keep {w w' : World} {g g' B B' : Nat} {d : Hd} {l : List Re} (h : TnRs w g B d l) (hk : ∀ b, g ≤ b → b < B → w'.heap[b]? = w.heap[b]?) (hg : g' ≤ g) (hB : B ≤ B') : TnRs w' g' B' d l :=
  ⟨h.len, h.row.keep (fun _ _ _ h hk => h.keep hk) hk hg hB, fun y hy => (h.sub y hy).keep hk hg hB⟩
theorem TnUs.keep {w w' : World} {g g' B B' : Nat} {d : Hd} {l : List Fu} (h : TnUs w g B d l) (hk : ∀ b, g ≤ b → b < B → w'.heap[b]? = w.heap[b]?) (hg : g' ≤ g) (hB : B ≤ B') : TnUs w' g' B' d l :=
  ⟨h.len, h.row.keep (fun _ _ _ h hk => h.keep hk) hk hg hB, fun y hy => (h.sub y hy).keep hk hg hB⟩
theorem reCells_len (r : Re) : r.cells.length = 2 := rfl
theorem fuCells_len (r : Fu) : r.cells.length = 6 := rfl
theorem reAt_of {w : World} {b o : Nat} {y : Re} (h : ∀ j, j < 2 → w.cell? ⟨b, o + j, none⟩ = y.cells[j]?) : ReAt w b o y := ⟨h 0 (by decide), h 1 (by decide)⟩
theorem fuAt_of {w : World} {b o : Nat} {y : Fu} (h : ∀ j, j < 6 → w.cell? ⟨b, o + j, none⟩ = y.cells[j]?) : FuAt w b o y := ⟨h 0 (by decide), h 1 (by decide), h 2 (by decide), h 3 (by decide), h 4 (by decide), h 5 (by decide)⟩
theorem reAt_list {w : World} {b o : Nat} {x : Re} (h : ReAt w b o x) : ∀ j v, x.cells[j]? = some v → w.cell? ((⟨b, o, none⟩ : Addr).add j) = some v := fun j v hv => by
  rw [addr_add]
  match j, hv with
  | 0, hv => cases hv; exact h.c0
  | 1, hv => cases hv; exact h.c1
  | n + 2, hv => simp [Re.cells] at hv
theorem fuAt_list {w : World} {b o : Nat} {x : Fu} (h : FuAt w b o x) : ∀ j v, x.cells[j]? = some v → w.cell? ((⟨b, o, none⟩ : Addr).add j) = some v := fun j v hv => by
  rw [addr_add]
  match j, hv with
  | 0, hv => cases hv; exact h.c0
  | 1, hv => cases hv; exact h.c1
  | 2, hv => cases hv; exact h.c2
  | 3, hv => cases hv; exact h.c3
  | 4, hv => cases hv; exact h.c4
  | 5, hv => cases hv; exact h.c5
  | n + 6, hv => simp [Fu.cells] at hv
abbrev TwinR (B : Nat) (x : Re) : Prop := ∀ w, ReIn w B x → B ≤ w.heap.size → Globs w →
  Calls Tryd.prog 54 #[.agg x.cells.toArray] w fun e w' => ∃ y : Re, e = .returned (.agg y.cells.toArray) ∧ stripR y = stripR x ∧ TnR w' w.heap.size w'.heap.size y ∧ Below w.heap.size w w'
abbrev TwinU (B : Nat) (x : Fu) : Prop := ∀ w, FuIn w B x → B ≤ w.heap.size → Globs w →
  Calls Tryd.prog 57 #[.agg x.cells.toArray] w fun e w' => ∃ y : Fu, e = .returned (.agg y.cells.toArray) ∧ stripF y = stripF x ∧ TnU w' w.heap.size w'.heap.size y ∧ Below w.heap.size w w'

set_option maxHeartbeats 4000000 in
set_option maxRecDepth 100000 in
theorem twinR_any (B : Nat) (x : Re) (hn : x.fs.length ≤ 262144) : TwinR B x := by
  intro w hI hB G
  obtain ⟨nm, d, fs⟩ := x
  obtain ⟨X, hX⟩ : ∃ X, w.heap.size = X := ⟨_, rfl⟩
  obtain ⟨o, ho⟩ : ∃ o, (.cells (Re.mk nm d fs).cells.toArray 52 (0, 0) : Obj) = o := ⟨_, rfl⟩
  obtain ⟨o2, ho2⟩ : ∃ o2, (.cells #[.string ⟨#[]⟩, .slice none 0 0] 52 (0, 0) : Obj) = o2 := ⟨_, rfl⟩
  obtain ⟨w2, hw2⟩ : ∃ w2, (w.alloc o).alloc o2 = w2 := ⟨_, rfl⟩
  have hb1 : Below w.heap.size w (w.alloc o) := (Below.refl _ _).alloc (Nat.le_refl _) _
  have hb2 : Below w.heap.size w w2 := by rw [← hw2]; exact hb1.alloc hb1.size _
  have s2 : w2.heap.size = X + 1 + 1 := by rw [← hw2, World.size_alloc, World.size_alloc, hX]
  have hs1 : (w.alloc o).heap.size = X + 1 := by rw [World.size_alloc, hX]
  have x1 : (w.alloc o).heap[X]? = some o := by rw [← hX]; exact heap_alloc_new w _
  have x2 : w2.heap[X]? = some o := by
    rw [← hw2]
    exact (((Below.refl (w.alloc o).heap.size (w.alloc o)).alloc (Nat.le_refl _) o2).block X (by omega)).trans x1
  have y2 : w2.heap[X + 1]? = some o2 := by rw [← hw2, ← hs1]; exact heap_alloc_new _ _
  have C := Lib.hid (twinFls_any d fs B w2 (hI.fs.keep (hb2.mono hB) (Nat.le_refl B)) (Nat.le_trans hB hb2.size) hn (G.below hb2))
  have HNm := Lib.hid hI.nm
  have c6 : w2.cell? ⟨X, 1, none⟩ = some (.slice d.a fs.length d.c) := by rw [← ho] at x2; exact cell_at x2 1
  have HX := Lib.hid (And.intro x2 y2)
  have HN : Hid (w.heap.size = X ∧ (w.alloc o).alloc o2 = w2 ∧ w2.heap.size = X + 1 + 1) := Lib.hid ⟨hX, hw2, s2⟩
  have HB2 := Lib.hid hb2
  have Ho := Lib.hid (And.intro ho ho2)
  rw [← hw2] at c6
  clear hb1 hb2 s2 hs1 x1 x2 y2 hI G hB hw2 hn
  go_enter Tryd.func54, Tryd.ntmps54
  go_wp2_with fail
  simp only [HN.out.2.1]
  clear c6
  with_reducible refine C.out.mono ?_
  rintro e w3 ⟨d', rfl, hT, hb3⟩
  obtain ⟨y, hy⟩ : ∃ y : Re, y = ⟨nm, d', fs⟩ := ⟨_, rfl⟩
  have x3 : w3.heap[X]? = some o := (hb3.block X (by have := HN.out.2.2; omega)).trans HX.out.1
  have y3 : w3.heap[X + 1]? = some o2 := (hb3.block (X + 1) (by have := HN.out.2.2; omega)).trans HX.out.2
  rw [← Ho.out.1] at x3
  have c6 := cell_at x3 1
  have f6 := frz_at x3 1
  simp only [List.getElem?_toArray, Re.cells, List.getElem?_cons_zero, List.getElem?_cons_succ] at c6
  obtain ⟨w4, hw4⟩ : ∃ w4, w3.setCell ⟨X, 1, none⟩ (.slice d'.a fs.length d'.c) = w4 := ⟨_, rfl⟩
  have x4 : w4.heap[X]? = some (.cells y.cells.toArray 52 (0, 0)) := by
    have h := row_set x3 1 (.slice d'.a fs.length d'.c)
    rw [hw4] at h
    rw [h, hy]
    rfl
  have y4 : w4.heap[X + 1]? = some o2 := by rw [← hw4]; exact (Below.heap_setCell _ _ _ _ (by show X + 1 ≠ X; omega)).trans y3
  have hk4 : KX X w3 (w4.setCells (X + 1) 0 y.cells) := setCells_kept (S := fun k => k = X ∨ k = X + 1) (g := X + 1) (Or.inr rfl) y.cells 0 w4 (by rw [← hw4]; exact Kept.setCell (S := fun k => k = X ∨ k = X + 1) (Kept.refl _ w3) (p := ⟨X, 1, none⟩) (Or.inl (Or.inl rfl)) _)
  rw [← Ho.out.2] at y4
  have htr := there_row (vs := [.string ⟨#[]⟩, .slice none 0 0]) y4 0 2 (Nat.le_refl 2)
  have hrg : (w4.setCells (X + 1) 0 y.cells).rangeAt (X + 1) 0 y.cells := World.rangeAt_setCells_same _ _ _ _ htr
  have hres : (loadVar 52 ⟨X + 1, 0, none⟩).run Tryd.prog (w4.setCells (X + 1) 0 y.cells) = .ok (.agg y.cells.toArray) (w4.setCells (X + 1) 0 y.cells) := run_loadVar_mid _ (X + 1) 0 52 y.cells _ hrg Tryd.underlying52 rfl (reSzL _)
  have hz4 := row_cells x4
  have HZ : Hid (stripR y = stripR ⟨nm, d, fs⟩ ∧ TnR (w4.setCells (X + 1) 0 y.cells) w.heap.size (w4.setCells (X + 1) 0 y.cells).heap.size y ∧ Below w.heap.size w (w4.setCells (X + 1) 0 y.cells)) := Lib.hid (by
    have hg : w2.heap.size = X + 1 + 1 := HN.out.2.2
    have hX := HN.out.1
    have hT2 := hT.keep (fun b h1 h2 => hk4.block b h2 (fun hh => by rcases hh with hh | hh <;> omega)) (show w.heap.size ≤ w2.heap.size by omega) hk4.size
    have hE : TnR (w4.setCells (X + 1) 0 y.cells) w.heap.size (w4.setCells (X + 1) 0 y.cells).heap.size ⟨nm, d', fs⟩ := ⟨HNm.out, hT2⟩
    rw [← hy] at hE
    refine ⟨by rw [hy]; rfl, hE, ?_⟩
    have h1 : Below w.heap.size w w3 := HB2.out.trans (hb3.mono HB2.out.size)
    exact h1.trans (hk4.below h1.size (fun k h => by rcases h with h | h <;> omega)))
  have HW4 := Lib.hid hw4
  clear hT hb3 x3 y3 x4 y4 hk4 hrg hw4 hy
  go_wp2_with (first | (refine wpList_load_list rfl 52 _ rfl _ rfl y.cells _ hz4 Tryd.underlying52 rfl (reSzL _) ?_) | (refine wpList_store_mid rfl 52 _ _ rfl (X + 1) 0 y.cells.toArray rfl rfl htr (reSz _) (reOn _) ?_) | rw [HW4.out])
  refine bodyPost_ret (v := .agg y.cells.toArray) (by simp [results, Tryd.results54, Act.eval, Sem.run_bind, Act.put, asAddr, hres]) rfl ?_
  exact ⟨y, rfl, HZ.out⟩

set_option maxHeartbeats 16000000 in
set_option maxRecDepth 100000 in
theorem twinRs_any (B : Nat) (d : Hd) (l : List Re) (w : World) (hI : ResIn w B d l) (hBw : B ≤ w.heap.size) (G : Globs w) (hn : l.length ≤ 262144) (hsm : ∀ r ∈ l, r.fs.length ≤ 262144) :
    Calls Tryd.prog 31 #[.slice d.a l.length d.c] w fun e w' => ∃ (d' : Hd) (l' : List Re), e = .returned (.slice d'.a l'.length d'.c) ∧ l'.length = l.length ∧ l'.map stripR = l.map stripR ∧ TnRs w' w.heap.size w'.heap.size d' l' ∧ Below w.heap.size w w' := by
  have hel : ∀ x ∈ l, TwinR B x := fun x hx => twinR_any B x (hsm x hx)
  clear hsm
  obtain ⟨i0, hi0, hz0, hz1, hz2⟩ := info_parts infoRe
  have hmk0 := run_make (P := Tryd.prog) w 22 52 i0 _ Tryd.underlying22 hi0 hz0 .i64 .i64 (l.length : Int) ((l.length : Int) + 2) (by omega) (by omega) (by rw [hz2]; omega) (by omega)
  rw [show ((l.length : Int) + 2).toNat = l.length + 2 by omega, Int.toNat_natCast, hz1] at hmk0
  generalize hcs : madeCells _ ((l.length + 2) * 2) = cs at hmk0
  have hsz : cs.size = (l.length + 2) * 2 := by rw [← hcs]; exact size_madeCells _ _
  clear hcs
  obtain ⟨w0, hw0⟩ : ∃ w0, w.alloc (.cells cs 52) = w0 := ⟨_, rfl⟩
  have hb0 : Below w.heap.size w w0 := by rw [← hw0]; exact (Below.refl _ _).alloc (Nat.le_refl _) _
  have ho0 : w0.ownsRow w.heap.size 52 2 (.slice (some ⟨w.heap.size, 0, none⟩) 0 (l.length + 2)) 0 (([] : List Re).flatMap Re.cells) := by rw [← hw0]; exact own_begin w cs 52 2 (l.length + 2) (by unfold maxLen; omega) hsz
  have HO0 := Lib.hid ho0
  have HB0 := Lib.hid hb0
  have HGl : Hid (∀ W, Below w.heap.size w W → Globs W) := Lib.hid fun W hb => G.below hb
  have HIn : Hid (∀ W, Below w.heap.size w W → ResIn W B d l) := Lib.hid fun W hb => hI.keep (hb.mono hBw) (Nat.le_refl B)
  have HBs : Hid (∀ W, Below w.heap.size w W → B ≤ W.heap.size) := Lib.hid fun W hb => Nat.le_trans hBw hb.size
  have HW0 := Lib.hid hw0
  obtain ⟨n, hN⟩ : ∃ n, l.length = n := ⟨_, rfl⟩
  have HN := Lib.hid hN
  rw [hN] at hmk0 HO0 hn ⊢
  have hnI : (n : Int) ≤ 1000000 := by omega
  clear hi0 hz0 hz1 hz2 hsz hI hN G hBw hb0 ho0
  rw [hw0] at hmk0
  clear hw0
  go_enter Tryd.func31, Tryd.ntmps31
  go_wp2_with fail
  go_loopw [15] (fun ii wr => ∃ (j : Nat) (l' : List Re), ii = .int .i64 j ∧ j ≤ n ∧ Hid (l'.length = j ∧ l'.map stripR = (l.take j).map stripR) ∧ Hid (wr.ownsRow w.heap.size 52 2 (.slice (some ⟨w.heap.size, 0, none⟩) j (n + 2)) j (l'.flatMap Re.cells)) ∧ Hid (∀ y ∈ l', TnR wr (w.heap.size + 1) wr.heap.size y) ∧ Hid (Below w.heap.size w wr)) (fun ii _ => n - (intOf ii).toNat)
  case atStart => exact ⟨0, [], rfl, Nat.zero_le _, Lib.hid ⟨rfl, rfl⟩, HO0, Lib.hid (fun y hy => by cases hy), HB0⟩
  case round =>
    obtain ⟨j, l', rfl, hj, hL, hO, hT, hB⟩ := hrel
    clear HO0
    have p2 : (0 : Int) ≤ (j : Int) := Int.natCast_nonneg _
    by_cases hlt : j < n
    · have hltl : j < l.length := by rw [HN.out]; exact hlt
      obtain ⟨x, hx⟩ : ∃ x, l[j]? = some x := ⟨_, List.getElem?_eq_getElem hltl⟩
      have hmem := List.mem_of_getElem? hx
      have hIr := HIn.out _ hB.out
      obtain ⟨rb, ro, hda, hrb, hrow⟩ := hIr.row (by intro h0; rw [h0] at hltl; simp at hltl)
      have hz := reAt_list (hrow j x hx)
      have hTk : (l.take (j + 1)).map stripR = (l.take j).map stripR ++ [stripR x] := by
        rw [List.take_add_one, hx]; simp
      have C := Lib.hid (hel x hmem wr (hIr.sub x hmem) (HBs.out _ hB.out) (HGl.out _ hB.out))
      have p1 : (j : Int) < (n : Int) := by omega
      have HTk := Lib.hid hTk
      have HLt := Lib.hid hlt
      clear hrow hIr hx hmem hTk hltl hlt hrb
      rw [hda]
      go_wp2_with (refine wpList_load_list rfl 52 _ rfl _ rfl (Re.cells x) _ hz Tryd.underlying52 rfl (reSzL _) ?_)
      with_reducible refine C.out.mono ?_
      rintro e w2 ⟨y, rfl, hs, ht, hb⟩
      have HO2 := Lib.hid (own_belowI hO.out hb)
      have hlt := HLt.out
      have htr := there_own HO2.out (by omega)
      obtain ⟨w3, hw3⟩ : ∃ w3, w2.setCells w.heap.size (j * 2) (Re.cells y) = w3 := ⟨_, rfl⟩
      have hO3 := own_store HO2.out (by omega) (Re.cells y) rfl
      rw [hw3] at hO3
      have HO3 : Hid (w3.ownsRow w.heap.size 52 2 (.slice (some ⟨w.heap.size, 0, none⟩) (j + 1) (n + 2)) (j + 1) ((l' ++ [y]).flatMap Re.cells)) := Lib.hid (by rw [List.flatMap_append]; simpa using hO3)
      have hbw2 : Below w.heap.size w w2 := hB.out.trans (hb.mono hB.out.size)
      have hk3 : ∀ b, w.heap.size + 1 ≤ b → w3.heap[b]? = w2.heap[b]? := fun b hb2 => by
        rw [← hw3]
        by_cases hbl : b < w2.heap.size
        · exact (setCells_kept (S := fun k => k = w.heap.size) rfl (Re.cells y) (j * 2) w2 (Kept.refl _ _)).block b hbl (by omega)
        · rw [Array.getElem?_eq_none (by rw [setCells_size]; omega), Array.getElem?_eq_none (by omega)]
      have s3 : w3.heap.size = w2.heap.size := by rw [← hw3, setCells_size]
      have hgw : w.heap.size + 1 ≤ wr.heap.size := by
        rcases hO.out.2 with ⟨h', _⟩ | ⟨g', cap', cur, h', hb2, hg, r⟩
        · simp at h'
        · simp only [Value.slice.injEq, Option.some.injEq, Addr.mk.injEq, and_true] at h'
          rw [h'.1]; exact blk_lt hg
      have HT3 : Hid (∀ z ∈ l' ++ [y], TnR w3 (w.heap.size + 1) w3.heap.size z) := Lib.hid fun z hz => by
        rcases mem_last hz with hz | rfl
        · exact (hT.out z hz).keep (fun b h1 h2 => (hk3 b h1).trans (hb.block b h2)) (Nat.le_refl _) (by rw [s3]; exact hb.size)
        · exact ht.keep (fun b h1 h2 => hk3 b (by omega)) (by omega) (by rw [s3]; exact Nat.le_refl _)
      have HB3 : Hid (Below w.heap.size w w3) := Lib.hid (by rw [← hw3]; exact setCells_below (Nat.le_refl _) _ _ _ hbw2)
      have HL3 : Hid ((l' ++ [y]).length = j + 1 ∧ (l' ++ [y]).map stripR = (l.take (j + 1)).map stripR) := Lib.hid ⟨by rw [List.length_append, hL.out.1]; rfl, by rw [HTk.out, ← hL.out.2, List.map_append]; simp [hs]⟩
      have HW3 := Lib.hid hw3
      clear hs ht hb HO2 hO3 hbw2 hk3 s3 hgw hz hw3 C hL hO hT hB HTk
      go_wp2_with (refine wpList_store_mid rfl 52 _ _ rfl w.heap.size (j * 2) (Re.cells y).toArray rfl rfl htr (reSz _) (reOn _) ?_; rw [show w2.setCells w.heap.size (j * 2) (Re.cells y).toArray.toList = w3 from HW3.out])
      go_roundw
      case rel => exact ⟨j + 1, l' ++ [y], by go_num, by omega, HL3, HO3, HT3, HB3⟩
      case measure => simp [intOf]; omega
    · obtain rfl : j = n := by omega
      have hst : l'.map stripR = l.map stripR := by
        have h := hL.out.2
        rwa [List.take_of_length_le (by rw [HN.out]; exact Nat.le_refl _)] at h
      have HSt := Lib.hid (And.intro hL.out.1 hst)
      clear hst hL hlt
      go_wp2_with fail
      refine wp_loop_rounds 3 ?_
      rw [rounds_succ]
      go_wp2_with fail
      refine (markR_any j (by omega) wr (HGl.out _ hB.out)).mono ?_
      rintro e w2 ⟨rfl, hb⟩
      have HO2 := Lib.hid (own_belowI hO.out hb)
      have hB2 : Below w.heap.size w w2 := hB.out.trans (hb.mono hB.out.size)
      have HKp : Hid (Kept (fun k => k = w.heap.size) wr w2) := Lib.hid (Kept.of_below hb)
      have htr := there_own HO2.out (by omega)
      obtain ⟨w3, hwd⟩ : ∃ w3, w2.setCells w.heap.size (j * 2) (markR j).cells = w3 := ⟨_, rfl⟩
      have HO3 := Lib.hid (own_store HO2.out (by omega) (markR j).cells rfl)
      rw [hwd] at HO3
      have HB3 : Hid (Below w.heap.size w w3) := Lib.hid (by rw [← hwd]; exact setCells_below (Nat.le_refl _) _ _ _ hB2)
      have HK3 : Hid (Kept (fun k => k = w.heap.size) wr w3) := Lib.hid (by rw [← hwd]; exact setCells_kept (S := fun k => k = w.heap.size) rfl _ _ _ HKp.out)
      clear hb hB2 HO2 HKp
      go_wp2_with (refine wpList_store_mid rfl 52 _ _ rfl w.heap.size (j * 2) (markR j).cells.toArray rfl rfl htr (reSz _) (reOn _) ?_; rw [show w2.setCells w.heap.size (j * 2) (markR j).cells.toArray.toList = w3 from hwd])
      clear htr hwd
      go_wp2_with fail
      rw [rounds_succ]
      go_wp2_with fail
      refine (markR_any (j + 1) (by omega) w3 (HGl.out _ HB3.out)).mono ?_
      rintro e w4 ⟨rfl, hb⟩
      have HO2 := Lib.hid (own_belowI HO3.out hb)
      have hB2 : Below w.heap.size w w4 := HB3.out.trans (hb.mono HB3.out.size)
      have HKp : Hid (Kept (fun k => k = w.heap.size) w3 w4) := Lib.hid (Kept.of_below hb)
      have htr := there_own HO2.out (by omega)
      obtain ⟨w5, hwd⟩ : ∃ w5, w4.setCells w.heap.size ((j + 1) * 2) (markR (j + 1)).cells = w5 := ⟨_, rfl⟩
      have HO5 := Lib.hid (own_store HO2.out (by omega) (markR (j + 1)).cells rfl)
      rw [hwd] at HO5
      have HB5 : Hid (Below w.heap.size w w5) := Lib.hid (by rw [← hwd]; exact setCells_below (Nat.le_refl _) _ _ _ hB2)
      have HK5 : Hid (Kept (fun k => k = w.heap.size) w3 w5) := Lib.hid (by rw [← hwd]; exact setCells_kept (S := fun k => k = w.heap.size) rfl _ _ _ HKp.out)
      clear hb hB2 HO2 HKp
      go_wp2_with (refine wpList_store_mid rfl 52 _ _ rfl w.heap.size ((j + 1) * 2) (markR (j + 1)).cells.toArray rfl rfl htr (reSz _) (reOn _) ?_; rw [show w4.setCells w.heap.size ((j + 1) * 2) (markR (j + 1)).cells.toArray.toList = w5 from hwd])
      clear htr hwd
      rw [rounds_succ]
      go_wp2_with fail
      go_ret
      have hlt : w.heap.size < w5.heap.size := by
        rcases HO5.out.2 with ⟨h', _⟩ | ⟨g', cap', cur, h', hb, hg, r⟩
        · simp at h'
        · simp only [Value.slice.injEq, Option.some.injEq, Addr.mk.injEq, and_true] at h'
          rw [h'.1]; exact blk_lt hg
      have hK := HK3.out.trans HK5.out
      refine ⟨⟨some ⟨w.heap.size, 0, none⟩, j + 2⟩, l', by rw [HSt.out.1]; rfl, HSt.out.1, HSt.out.2, ⟨by rw [HSt.out.1]; omega, tnRow_of markR reCells_len (fun _ _ _ _ => reAt_of) HSt.out.1 (Nat.le_refl _) hlt HO5.out, fun y hy => (hT.out y hy).keep (fun b h1 h2 => hK.block b h2 (by omega)) (by omega) hK.size⟩, HB5.out⟩
end Go.Proofs.YtkklogikakcanaaDoor
namespace Go.Proofs.YtkklogikakcanaaDoor
open Go Go.RowKit Go.Sort

set_option maxHeartbeats 4000000 in
set_option maxRecDepth 100000 in
theorem twinU_any (B : Nat) (x : Fu) (hn : x.ps.length ≤ 262144) (hsm : stAlls x.body ≤ 262144) : TwinU B x := by
  intro w hI hB G
  obtain ⟨nm, pd, ps, t, bd, body⟩ := x
  have hz0 : ∀ v : Value, v.oneCell' = true → True := fun _ _ => trivial
  obtain ⟨X, hX⟩ : ∃ X, w.heap.size = X := ⟨_, rfl⟩
  obtain ⟨o, ho⟩ : ∃ o, (.cells (Fu.mk nm pd ps t bd body).cells.toArray 43 (0, 0) : Obj) = o := ⟨_, rfl⟩
  obtain ⟨o2, ho2⟩ : ∃ o2, (.cells #[.string ⟨#[]⟩, .slice none 0 0, .int .u8 0, .string ⟨#[]⟩, .int .i64 0, .slice none 0 0] 43 (0, 0) : Obj) = o2 := ⟨_, rfl⟩
  obtain ⟨w2, hw2⟩ : ∃ w2, (w.alloc o).alloc o2 = w2 := ⟨_, rfl⟩
  have hb1 : Below w.heap.size w (w.alloc o) := (Below.refl _ _).alloc (Nat.le_refl _) _
  have hb2 : Below w.heap.size w w2 := by rw [← hw2]; exact hb1.alloc hb1.size _
  have s2 : w2.heap.size = X + 1 + 1 := by rw [← hw2, World.size_alloc, World.size_alloc, hX]
  have hs1 : (w.alloc o).heap.size = X + 1 := by rw [World.size_alloc, hX]
  have x1 : (w.alloc o).heap[X]? = some o := by rw [← hX]; exact heap_alloc_new w _
  have x2 : w2.heap[X]? = some o := by
    rw [← hw2]
    exact (((Below.refl (w.alloc o).heap.size (w.alloc o)).alloc (Nat.le_refl _) o2).block X (by omega)).trans x1
  have y2 : w2.heap[X + 1]? = some o2 := by rw [← hw2, ← hs1]; exact heap_alloc_new _ _
  have C := Lib.hid (twinFls_any pd ps B w2 (hI.ps.keep (hb2.mono hB) (Nat.le_refl B)) (Nat.le_trans hB hb2.size) hn (G.below hb2))
  have CB : Hid (∀ W, KX X w2 W → Calls Tryd.prog 59 #[.slice bd.a body.length bd.c] W fun e w' => ∃ (d' : Hd) (l' : List St), e = .returned (.slice d'.a l'.length d'.c) ∧ l'.length = body.length ∧ stripSs l' = stripSs body ∧ TnSs w' W.heap.size w'.heap.size d' l' ∧ Below W.heap.size W w') := Lib.hid fun W hk => by
    have hbw : Below w.heap.size w W := hb2.trans (hk.below hb2.size (fun k h => by rcases h with h | h <;> omega))
    exact twinSs_any B body hsm bd W (hI.body.keep (hbw.mono hB) (Nat.le_refl B)) (Nat.le_trans hB hbw.size) (G.below hbw)
  have HNm := Lib.hid (And.intro hI.nm hI.t)
  have c6 : w2.cell? ⟨X, 1, none⟩ = some (.slice pd.a ps.length pd.c) := by rw [← ho] at x2; exact cell_at x2 1
  have HX := Lib.hid (And.intro x2 y2)
  have HN : Hid (w.heap.size = X ∧ (w.alloc o).alloc o2 = w2 ∧ w2.heap.size = X + 1 + 1) := Lib.hid ⟨hX, hw2, s2⟩
  have HB2 := Lib.hid hb2
  have Ho := Lib.hid (And.intro ho ho2)
  rw [← hw2] at c6
  clear hb1 hb2 s2 hs1 x1 x2 y2 hI G hB hw2 hn hsm hz0
  go_enter Tryd.func57, Tryd.ntmps57
  go_wp2_with fail
  simp only [HN.out.2.1]
  clear c6
  with_reducible refine C.out.mono ?_
  rintro e w3 ⟨pd', rfl, hT, hb3⟩
  have x3 : w3.heap[X]? = some o := (hb3.block X (by have := HN.out.2.2; omega)).trans HX.out.1
  have y3 : w3.heap[X + 1]? = some o2 := (hb3.block (X + 1) (by have := HN.out.2.2; omega)).trans HX.out.2
  rw [← Ho.out.1] at x3
  have c3 := cell_at x3 1
  have f3 := frz_at x3 1
  simp only [List.getElem?_toArray, Fu.cells, List.getElem?_cons_zero, List.getElem?_cons_succ] at c3
  obtain ⟨w4, hw4⟩ : ∃ w4, w3.setCell ⟨X, 1, none⟩ (.slice pd'.a ps.length pd'.c) = w4 := ⟨_, rfl⟩
  have x4 : w4.heap[X]? = some (.cells (Fu.mk nm pd' ps t bd body).cells.toArray 43 (0, 0)) := by
    have h := row_set x3 1 (.slice pd'.a ps.length pd'.c)
    rw [hw4] at h
    rw [h]
    rfl
  have y4 : w4.heap[X + 1]? = some o2 := by rw [← hw4]; exact (Below.heap_setCell _ _ _ _ (by show X + 1 ≠ X; omega)).trans y3
  have k34 : KX X w3 w4 := by rw [← hw4]; exact Kept.setCell (S := fun k => k = X ∨ k = X + 1) (Kept.refl _ w3) (p := ⟨X, 1, none⟩) (Or.inl (Or.inl rfl)) _
  have c4 : w4.cell? ⟨X, 5, none⟩ = some (.slice bd.a body.length bd.c) := cell_at x4 5
  rw [← hw4] at c4
  have HT := Lib.hid hT
  have HK34 := Lib.hid k34
  have HK24 := Lib.hid ((Kept.of_below hb3 : KX X w2 w3).trans k34)
  have HX4 := Lib.hid (And.intro x4 y4)
  have HW4 := Lib.hid hw4
  have HB3 := Lib.hid (HB2.out.trans (hb3.mono HB2.out.size))
  clear hT hb3 x3 y3 x4 y4 k34 hw4
  go_wp2_with fail
  simp only [HW4.out]
  clear c3 f3 c4
  have CC := CB.out w4 HK24.out
  with_reducible refine CC.mono ?_
  clear CC
  rintro e w5 ⟨bd', body', rfl, hlb, hsb, hTb, hb5⟩
  have s4 : w2.heap.size ≤ w4.heap.size := HK24.out.size
  obtain ⟨y, hy⟩ : ∃ y : Fu, y = ⟨nm, pd', ps, t, bd', body'⟩ := ⟨_, rfl⟩
  have x5 := (hb5.block X (by have := HN.out.2.2; omega)).trans HX4.out.1
  have y5 : w5.heap[X + 1]? = some o2 := (hb5.block (X + 1) (by have := HN.out.2.2; omega)).trans HX4.out.2
  have c5 := cell_at x5 5
  have f5 := frz_at x5 5
  simp only [List.getElem?_toArray, Fu.cells, List.getElem?_cons_zero, List.getElem?_cons_succ] at c5
  obtain ⟨w6, hw6⟩ : ∃ w6, w5.setCell ⟨X, 5, none⟩ (.slice bd'.a body'.length bd'.c) = w6 := ⟨_, rfl⟩
  have x6 : w6.heap[X]? = some (.cells y.cells.toArray 43 (0, 0)) := by
    have h := row_set x5 5 (.slice bd'.a body'.length bd'.c)
    rw [hw6] at h
    rw [h, hy]
    rfl
  have y6 : w6.heap[X + 1]? = some o2 := by rw [← hw6]; exact (Below.heap_setCell _ _ _ _ (by show X + 1 ≠ X; omega)).trans y5
  have k57 : KX X w5 (w6.setCells (X + 1) 0 y.cells) := setCells_kept (S := fun k => k = X ∨ k = X + 1) (g := X + 1) (Or.inr rfl) y.cells 0 w6 (by rw [← hw6]; exact Kept.setCell (S := fun k => k = X ∨ k = X + 1) (Kept.refl _ w5) (p := ⟨X, 5, none⟩) (Or.inl (Or.inl rfl)) _)
  rw [← Ho.out.2] at y6
  have htr := there_row (vs := [.string ⟨#[]⟩, .slice none 0 0, .int .u8 0, .string ⟨#[]⟩, .int .i64 0, .slice none 0 0]) y6 0 6 (Nat.le_refl 6)
  have hrg : (w6.setCells (X + 1) 0 y.cells).rangeAt (X + 1) 0 y.cells := World.rangeAt_setCells_same _ _ _ _ htr
  have hres : (loadVar 43 ⟨X + 1, 0, none⟩).run Tryd.prog (w6.setCells (X + 1) 0 y.cells) = .ok (.agg y.cells.toArray) (w6.setCells (X + 1) 0 y.cells) := run_loadVar_mid _ (X + 1) 0 43 y.cells _ hrg Tryd.underlying43 rfl (fuSzL _)
  have hz6 := row_cells x6
  have HZ : Hid (stripF y = stripF ⟨nm, pd, ps, t, bd, body⟩ ∧ TnU (w6.setCells (X + 1) 0 y.cells) w.heap.size (w6.setCells (X + 1) 0 y.cells).heap.size y ∧ Below w.heap.size w (w6.setCells (X + 1) 0 y.cells)) := Lib.hid (by
    have hg : w2.heap.size = X + 1 + 1 := HN.out.2.2
    have hX := HN.out.1
    have k37 : KX X w3 (w6.setCells (X + 1) 0 y.cells) := (HK34.out.trans (Kept.of_below hb5)).trans k57
    have hT2 := HT.out.keep (fun b h1 h2 => k37.block b h2 (fun hh => by rcases hh with hh | hh <;> omega)) (show w.heap.size ≤ w2.heap.size by omega) k37.size
    have hT3 := hTb.keep (fun b h1 h2 => k57.block b h2 (fun hh => by rcases hh with hh | hh <;> omega)) (show w.heap.size ≤ w4.heap.size by omega) k57.size
    have hE : TnU (w6.setCells (X + 1) 0 y.cells) w.heap.size (w6.setCells (X + 1) 0 y.cells).heap.size ⟨nm, pd', ps, t, bd', body'⟩ := ⟨HNm.out.1, hT2, HNm.out.2, hT3⟩
    rw [← hy] at hE
    refine ⟨by rw [hy]; simp only [stripF, hsb], hE, ?_⟩
    exact HB3.out.trans (k37.below HB3.out.size (fun k h => by rcases h with h | h <;> omega)))
  have HW6 := Lib.hid hw6
  clear hTb hsb hb5 x5 y5 x6 y6 k57 hrg hw6 hy hlb
  go_wp2_with (first | (refine wpList_load_list rfl 43 _ rfl _ rfl y.cells _ hz6 Tryd.underlying43 rfl (fuSzL _) ?_) | (refine wpList_store_mid rfl 43 _ _ rfl (X + 1) 0 y.cells.toArray rfl rfl htr (fuSz _) (fuOn _) ?_) | rw [HW6.out])
  refine bodyPost_ret (v := .agg y.cells.toArray) (by simp [results, Tryd.results57, Act.eval, Sem.run_bind, Act.put, asAddr, hres]) rfl ?_
  exact ⟨y, rfl, HZ.out⟩

set_option maxHeartbeats 16000000 in
set_option maxRecDepth 100000 in
theorem twinUs_any (B : Nat) (d : Hd) (l : List Fu) (w : World) (hI : FusIn w B d l) (hBw : B ≤ w.heap.size) (G : Globs w) (hn : l.length ≤ 262144) (hsm : ∀ r ∈ l, r.ps.length ≤ 262144 ∧ stAlls r.body ≤ 262144) :
    Calls Tryd.prog 33 #[.slice d.a l.length d.c] w fun e w' => ∃ (d' : Hd) (l' : List Fu), e = .returned (.slice d'.a l'.length d'.c) ∧ l'.length = l.length ∧ l'.map stripF = l.map stripF ∧ TnUs w' w.heap.size w'.heap.size d' l' ∧ Below w.heap.size w w' := by
  have hel : ∀ x ∈ l, TwinU B x := fun x hx => twinU_any B x (hsm x hx).1 (hsm x hx).2
  clear hsm
  obtain ⟨i0, hi0, hz0, hz1, hz2⟩ := info_parts infoFu
  have hmk0 := run_make (P := Tryd.prog) w 24 43 i0 _ Tryd.underlying24 hi0 hz0 .i64 .i64 (l.length : Int) ((l.length : Int) + 2) (by omega) (by omega) (by rw [hz2]; omega) (by omega)
  rw [show ((l.length : Int) + 2).toNat = l.length + 2 by omega, Int.toNat_natCast, hz1] at hmk0
  generalize hcs : madeCells _ ((l.length + 2) * 6) = cs at hmk0
  have hsz : cs.size = (l.length + 2) * 6 := by rw [← hcs]; exact size_madeCells _ _
  clear hcs
  obtain ⟨w0, hw0⟩ : ∃ w0, w.alloc (.cells cs 43) = w0 := ⟨_, rfl⟩
  have hb0 : Below w.heap.size w w0 := by rw [← hw0]; exact (Below.refl _ _).alloc (Nat.le_refl _) _
  have ho0 : w0.ownsRow w.heap.size 43 6 (.slice (some ⟨w.heap.size, 0, none⟩) 0 (l.length + 2)) 0 (([] : List Fu).flatMap Fu.cells) := by rw [← hw0]; exact own_begin w cs 43 6 (l.length + 2) (by unfold maxLen; omega) hsz
  have HO0 := Lib.hid ho0
  have HB0 := Lib.hid hb0
  have HGl : Hid (∀ W, Below w.heap.size w W → Globs W) := Lib.hid fun W hb => G.below hb
  have HIn : Hid (∀ W, Below w.heap.size w W → FusIn W B d l) := Lib.hid fun W hb => hI.keep (hb.mono hBw) (Nat.le_refl B)
  have HBs : Hid (∀ W, Below w.heap.size w W → B ≤ W.heap.size) := Lib.hid fun W hb => Nat.le_trans hBw hb.size
  have HW0 := Lib.hid hw0
  obtain ⟨n, hN⟩ : ∃ n, l.length = n := ⟨_, rfl⟩
  have HN := Lib.hid hN
  rw [hN] at hmk0 HO0 hn ⊢
  have hnI : (n : Int) ≤ 1000000 := by omega
  clear hi0 hz0 hz1 hz2 hsz hI hN G hBw hb0 ho0
  rw [hw0] at hmk0
  clear hw0
  go_enter Tryd.func33, Tryd.ntmps33
  go_wp2_with fail
  go_loopw [15] (fun ii wr => ∃ (j : Nat) (l' : List Fu), ii = .int .i64 j ∧ j ≤ n ∧ Hid (l'.length = j ∧ l'.map stripF = (l.take j).map stripF) ∧ Hid (wr.ownsRow w.heap.size 43 6 (.slice (some ⟨w.heap.size, 0, none⟩) j (n + 2)) j (l'.flatMap Fu.cells)) ∧ Hid (∀ y ∈ l', TnU wr (w.heap.size + 1) wr.heap.size y) ∧ Hid (Below w.heap.size w wr)) (fun ii _ => n - (intOf ii).toNat)
  case atStart => exact ⟨0, [], rfl, Nat.zero_le _, Lib.hid ⟨rfl, rfl⟩, HO0, Lib.hid (fun y hy => by cases hy), HB0⟩
  case round =>
    obtain ⟨j, l', rfl, hj, hL, hO, hT, hB⟩ := hrel
    clear HO0
    have p2 : (0 : Int) ≤ (j : Int) := Int.natCast_nonneg _
    by_cases hlt : j < n
    · have hltl : j < l.length := by rw [HN.out]; exact hlt
      obtain ⟨x, hx⟩ : ∃ x, l[j]? = some x := ⟨_, List.getElem?_eq_getElem hltl⟩
      have hmem := List.mem_of_getElem? hx
      have hIr := HIn.out _ hB.out
      obtain ⟨rb, ro, hda, hrb, hrow⟩ := hIr.row (by intro h0; rw [h0] at hltl; simp at hltl)
      have hz := fuAt_list (hrow j x hx)
      have hTk : (l.take (j + 1)).map stripF = (l.take j).map stripF ++ [stripF x] := by
        rw [List.take_add_one, hx]; simp
      have C := Lib.hid (hel x hmem wr (hIr.sub x hmem) (HBs.out _ hB.out) (HGl.out _ hB.out))
      have p1 : (j : Int) < (n : Int) := by omega
      have HTk := Lib.hid hTk
      have HLt := Lib.hid hlt
      clear hrow hIr hx hmem hTk hltl hlt hrb
      rw [hda]
      go_wp2_with (refine wpList_load_list rfl 43 _ rfl _ rfl (Fu.cells x) _ hz Tryd.underlying43 rfl (fuSzL _) ?_)
      with_reducible refine C.out.mono ?_
      rintro e w2 ⟨y, rfl, hs, ht, hb⟩
      have HO2 := Lib.hid (own_belowI hO.out hb)
      have hlt := HLt.out
      have htr := there_own HO2.out (by omega)
      obtain ⟨w3, hw3⟩ : ∃ w3, w2.setCells w.heap.size (j * 6) (Fu.cells y) = w3 := ⟨_, rfl⟩
      have hO3 := own_store HO2.out (by omega) (Fu.cells y) rfl
      rw [hw3] at hO3
      have HO3 : Hid (w3.ownsRow w.heap.size 43 6 (.slice (some ⟨w.heap.size, 0, none⟩) (j + 1) (n + 2)) (j + 1) ((l' ++ [y]).flatMap Fu.cells)) := Lib.hid (by rw [List.flatMap_append]; simpa using hO3)
      have hbw2 : Below w.heap.size w w2 := hB.out.trans (hb.mono hB.out.size)
      have hk3 : ∀ b, w.heap.size + 1 ≤ b → w3.heap[b]? = w2.heap[b]? := fun b hb2 => by
        rw [← hw3]
        by_cases hbl : b < w2.heap.size
        · exact (setCells_kept (S := fun k => k = w.heap.size) rfl (Fu.cells y) (j * 6) w2 (Kept.refl _ _)).block b hbl (by omega)
        · rw [Array.getElem?_eq_none (by rw [setCells_size]; omega), Array.getElem?_eq_none (by omega)]
      have s3 : w3.heap.size = w2.heap.size := by rw [← hw3, setCells_size]
      have hgw : w.heap.size + 1 ≤ wr.heap.size := by
        rcases hO.out.2 with ⟨h', _⟩ | ⟨g', cap', cur, h', hb2, hg, r⟩
        · simp at h'
        · simp only [Value.slice.injEq, Option.some.injEq, Addr.mk.injEq, and_true] at h'
          rw [h'.1]; exact blk_lt hg
      have HT3 : Hid (∀ z ∈ l' ++ [y], TnU w3 (w.heap.size + 1) w3.heap.size z) := Lib.hid fun z hz => by
        rcases mem_last hz with hz | rfl
        · exact (hT.out z hz).keep (fun b h1 h2 => (hk3 b h1).trans (hb.block b h2)) (Nat.le_refl _) (by rw [s3]; exact hb.size)
        · exact ht.keep (fun b h1 h2 => hk3 b (by omega)) (by omega) (by rw [s3]; exact Nat.le_refl _)
      have HB3 : Hid (Below w.heap.size w w3) := Lib.hid (by rw [← hw3]; exact setCells_below (Nat.le_refl _) _ _ _ hbw2)
      have HL3 : Hid ((l' ++ [y]).length = j + 1 ∧ (l' ++ [y]).map stripF = (l.take (j + 1)).map stripF) := Lib.hid ⟨by rw [List.length_append, hL.out.1]; rfl, by rw [HTk.out, ← hL.out.2, List.map_append]; simp [hs]⟩
      have HW3 := Lib.hid hw3
      clear hs ht hb HO2 hO3 hbw2 hk3 s3 hgw hz hw3 C hL hO hT hB HTk
      go_wp2_with (refine wpList_store_mid rfl 43 _ _ rfl w.heap.size (j * 6) (Fu.cells y).toArray rfl rfl htr (fuSz _) (fuOn _) ?_; rw [show w2.setCells w.heap.size (j * 6) (Fu.cells y).toArray.toList = w3 from HW3.out])
      go_roundw
      case rel => exact ⟨j + 1, l' ++ [y], by go_num, by omega, HL3, HO3, HT3, HB3⟩
      case measure => simp [intOf]; omega
    · obtain rfl : j = n := by omega
      have hst : l'.map stripF = l.map stripF := by
        have h := hL.out.2
        rwa [List.take_of_length_le (by rw [HN.out]; exact Nat.le_refl _)] at h
      have HSt := Lib.hid (And.intro hL.out.1 hst)
      clear hst hL hlt
      go_wp2_with fail
      refine wp_loop_rounds 3 ?_
      rw [rounds_succ]
      go_wp2_with fail
      refine (markU_any j (by omega) wr (HGl.out _ hB.out)).mono ?_
      rintro e w2 ⟨rfl, hb⟩
      have HO2 := Lib.hid (own_belowI hO.out hb)
      have hB2 : Below w.heap.size w w2 := hB.out.trans (hb.mono hB.out.size)
      have HKp : Hid (Kept (fun k => k = w.heap.size) wr w2) := Lib.hid (Kept.of_below hb)
      have htr := there_own HO2.out (by omega)
      obtain ⟨w3, hwd⟩ : ∃ w3, w2.setCells w.heap.size (j * 6) (markU j).cells = w3 := ⟨_, rfl⟩
      have HO3 := Lib.hid (own_store HO2.out (by omega) (markU j).cells rfl)
      rw [hwd] at HO3
      have HB3 : Hid (Below w.heap.size w w3) := Lib.hid (by rw [← hwd]; exact setCells_below (Nat.le_refl _) _ _ _ hB2)
      have HK3 : Hid (Kept (fun k => k = w.heap.size) wr w3) := Lib.hid (by rw [← hwd]; exact setCells_kept (S := fun k => k = w.heap.size) rfl _ _ _ HKp.out)
      clear hb hB2 HO2 HKp
      go_wp2_with (refine wpList_store_mid rfl 43 _ _ rfl w.heap.size (j * 6) (markU j).cells.toArray rfl rfl htr (fuSz _) (fuOn _) ?_; rw [show w2.setCells w.heap.size (j * 6) (markU j).cells.toArray.toList = w3 from hwd])
      clear htr hwd
      go_wp2_with fail
      rw [rounds_succ]
      go_wp2_with fail
      refine (markU_any (j + 1) (by omega) w3 (HGl.out _ HB3.out)).mono ?_
      rintro e w4 ⟨rfl, hb⟩
      have HO2 := Lib.hid (own_belowI HO3.out hb)
      have hB2 : Below w.heap.size w w4 := HB3.out.trans (hb.mono HB3.out.size)
      have HKp : Hid (Kept (fun k => k = w.heap.size) w3 w4) := Lib.hid (Kept.of_below hb)
      have htr := there_own HO2.out (by omega)
      obtain ⟨w5, hwd⟩ : ∃ w5, w4.setCells w.heap.size ((j + 1) * 6) (markU (j + 1)).cells = w5 := ⟨_, rfl⟩
      have HO5 := Lib.hid (own_store HO2.out (by omega) (markU (j + 1)).cells rfl)
      rw [hwd] at HO5
      have HB5 : Hid (Below w.heap.size w w5) := Lib.hid (by rw [← hwd]; exact setCells_below (Nat.le_refl _) _ _ _ hB2)
      have HK5 : Hid (Kept (fun k => k = w.heap.size) w3 w5) := Lib.hid (by rw [← hwd]; exact setCells_kept (S := fun k => k = w.heap.size) rfl _ _ _ HKp.out)
      clear hb hB2 HO2 HKp
      go_wp2_with (refine wpList_store_mid rfl 43 _ _ rfl w.heap.size ((j + 1) * 6) (markU (j + 1)).cells.toArray rfl rfl htr (fuSz _) (fuOn _) ?_; rw [show w4.setCells w.heap.size ((j + 1) * 6) (markU (j + 1)).cells.toArray.toList = w5 from hwd])
      clear htr hwd
      rw [rounds_succ]
      go_wp2_with fail
      go_ret
      have hlt : w.heap.size < w5.heap.size := by
        rcases HO5.out.2 with ⟨h', _⟩ | ⟨g', cap', cur, h', hb, hg, r⟩
        · simp at h'
        · simp only [Value.slice.injEq, Option.some.injEq, Addr.mk.injEq, and_true] at h'
          rw [h'.1]; exact blk_lt hg
      have hK := HK3.out.trans HK5.out
      refine ⟨⟨some ⟨w.heap.size, 0, none⟩, j + 2⟩, l', by rw [HSt.out.1]; rfl, HSt.out.1, HSt.out.2, ⟨by rw [HSt.out.1]; omega, tnRow_of markU fuCells_len (fun _ _ _ _ => fuAt_of) HSt.out.1 (Nat.le_refl _) hlt HO5.out, fun y hy => (hT.out y hy).keep (fun b h1 h2 => hK.block b h2 (by omega)) (by omega) hK.size⟩, HB5.out⟩
end Go.Proofs.YtkklogikakcanaaDoor
