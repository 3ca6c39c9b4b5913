import Derived.Test.YtkklogikakcanaaGreatDoorTwC
import Derived.OwnWalk
import Derived.Test.YtkklogikakcanaaGreatDoorEffPlain
import Derived.Test.YtkklogikakcanaaGreatDoorSizeB
import Derived.Test.YtkklogikakcanaaGreatDoorEffP
import Derived.Test.YtkklogikakcanaaGreatDoorTreeOpen
set_option linter.unusedVariables false
set_option linter.unusedSimpArgs false
open List renaming getElem_toArray → sl1, getElem_cons_zero → sl2, getElem_cons_succ → sl3, setIfInBounds_toArray → sl4, set_cons_zero → sl5, set_cons_succ → sl6, getElem?_toArray → sl7, getElem?_cons_zero → sl8, getElem?_cons_succ → sl9
namespace Go.Proofs.YtkklogikakcanaaGreatDoor
open Go Go.RowKit Go.Sort
structure FuB (w : World) (b : Nat) : Prop where
 s0 : ∃ x, w.cell? ⟨b, 0, none⟩ = some (.string x)
 s1 : ∃ a l c, w.cell? ⟨b, 1, none⟩ = some (.slice a l c)
 s2 : ∃ n, w.cell? ⟨b, 2, none⟩ = some (.int .u8 n)
theorem two_first {α : Type} (l : List α) (m0 m1 : α) : ∃ y0 y1, (l ++ [m0, m1])[0]? = some y0 ∧ (l ++ [m0, m1])[1]? = some y1 := by
 match l with
 | [] => exact ⟨_, _, rfl, rfl⟩
 | [a] => exact ⟨_, _, rfl, rfl⟩
 | a :: b :: r => exact ⟨_, _, rfl, rfl⟩
section
variable {w w' : World} {b b' g g' B B' : Nat}
theorem FuB.of {d : Hd} {l : List Fu} (h : TnUs w g B d l) (hd : d.a = some ⟨b, 0, none⟩) : FuB w b := by
 obtain ⟨b2, h1, h2, h3, h4, h5⟩ := h.row
 rw [hd] at h1
 obtain rfl : b = b2 := by injection h1 with h1; injection h1
 obtain ⟨y0, y1, e0, -⟩ := two_first l (markU l.length) (markU (l.length + 1))
 have h := h5 0 y0 e0
 rw [Nat.zero_mul] at h
 exact ⟨⟨_, h.c0⟩, ⟨_, _, _, h.c1⟩, ⟨_, h.c2⟩⟩
theorem exRow_ne (hF : FuB w b) {l : List Ex} {m0 m1 : Ex} (h : ∀ i y, (l ++ [m0, m1])[i]? = some y → ExAt w b' (i * 7) y) : b' ≠ b := by
 rintro rfl
 obtain ⟨y0, y1, e0, -⟩ := two_first l m0 m1
 have h1 := (h 0 y0 e0).c0
 rw [Nat.zero_mul] at h1
 obtain ⟨x, hx⟩ := hF.s0
 rw [hx] at h1
 simp at h1
theorem stRow_ne (hF : FuB w b) {l : List St} {m0 m1 : St} (h : ∀ i y, (l ++ [m0, m1])[i]? = some y → StAt w b' (i * 21) y) : b' ≠ b := by
 rintro rfl
 obtain ⟨y0, y1, e0, -⟩ := two_first l m0 m1
 have h1 := (h 0 y0 e0).c0
 rw [Nat.zero_mul] at h1
 obtain ⟨x, hx⟩ := hF.s0
 rw [hx] at h1
 simp at h1
theorem flRow_ne (hF : FuB w b) {l : List Fl} {m0 m1 : Fl} (h : ∀ i y, (l ++ [m0, m1])[i]? = some y → FlAt w b' (i * 4) y) : b' ≠ b := by
 rintro rfl
 obtain ⟨y0, y1, e0, -⟩ := two_first l m0 m1
 have h1 := (h 0 y0 e0).c1
 rw [Nat.zero_mul, Nat.zero_add] at h1
 obtain ⟨x, y, z, hx⟩ := hF.s1
 rw [hx] at h1
 simp at h1
theorem reRow_ne (hF : FuB w b) {l : List Re} {m0 m1 : Re} (h : ∀ i y, (l ++ [m0, m1])[i]? = some y → ReAt w b' (i * 2) y) : b' ≠ b := by
 rintro rfl
 obtain ⟨y0, y1, -, e1⟩ := two_first l m0 m1
 have h1 := (h 1 y1 e1).c0
 rw [Nat.one_mul] at h1
 obtain ⟨x, hx⟩ := hF.s2
 rw [hx] at h1
 simp at h1
theorem TnRow.keepN {α : Type} {At : World → Nat → Nat → α → Prop} {k : Nat} {mk : Nat → α} {d : Hd} {l : List α}
  (hkeep : ∀ b o y, At w b o y → (∀ o', w'.cell? ⟨b, o', none⟩ = w.cell? ⟨b, o', none⟩) → At w' b o y)
  (h : TnRow At k mk w g B d l) (hne : ∀ b', (∀ i y, (l ++ [mk l.length, mk (l.length + 1)])[i]? = some y → At w b' (i * k) y) → b' ≠ b) (hk : ∀ b', b' ≠ b → g ≤ b' → b' < B → w'.heap[b']? = w.heap[b']?) (hB : B ≤ B') : TnRow At k mk w' g B' d l := by
 obtain ⟨b2, h1, h2, h3, h4, h5⟩ := h
 exact ⟨b2, h1, h2, by omega, h4, fun i y hy => hkeep _ _ _ (h5 i y hy) fun o' => by unfold World.cell?; rw [hk b2 (hne b2 h5) h2 h3]⟩
theorem TnE.keepN {x : Ex} (hF : FuB w b) (h : TnE w g B x) (hk : ∀ b', b' ≠ b → g ≤ b' → b' < B → w'.heap[b']? = w.heap[b']?) (hB : B ≤ B') : TnE w' g B' x := by
 induction h with
 | mk hk1 hn hnm ht hl row _ ih => exact .mk hk1 hn hnm ht hl (row.keepN (fun _ _ _ h hk => h.keep hk) (fun _ h => exRow_ne hF h) hk hB) ih
theorem TnS.keepN {x : St} (hF : FuB w b) (h : TnS w g B x) (hk : ∀ b', b' ≠ b → g ≤ b' → b' < B → w'.heap[b']? = w.heap[b']?) (hB : B ≤ B') : TnS w' g B' x := by
 induction h with
 | mk hk1 hnm ht hx hy hbl hel brow erow _ _ ih1 ih2 =>
  exact .mk hk1 hnm ht (hx.keepN hF hk hB) (hy.keepN hF hk hB) hbl hel (brow.keepN (fun _ _ _ h hk => h.keep hk) (fun _ h => stRow_ne hF h) hk hB) (erow.keepN (fun _ _ _ h hk => h.keep hk) (fun _ h => stRow_ne hF h) hk hB) ih1 ih2
theorem TnSs.keepN {d : Hd} {l : List St} (hF : FuB w b) (h : TnSs w g B d l) (hk : ∀ b', b' ≠ b → g ≤ b' → b' < B → w'.heap[b']? = w.heap[b']?) (hB : B ≤ B') : TnSs w' g B' d l :=
 ⟨h.len, h.row.keepN (fun _ _ _ h hk => h.keep hk) (fun _ h => stRow_ne hF h) hk hB, fun y hy => (h.sub y hy).keepN hF hk hB⟩
theorem TnFs.keepN {d : Hd} {l : List Fl} (hF : FuB w b) (h : TnFs w g B d l) (hk : ∀ b', b' ≠ b → g ≤ b' → b' < B → w'.heap[b']? = w.heap[b']?) (hB : B ≤ B') : TnFs w' g B' d l :=
 ⟨h.len, h.row.keepN (fun _ _ _ h hk => h.keep hk) (fun _ h => flRow_ne hF h) hk hB, h.sub⟩
theorem TnRs.keepN {d : Hd} {l : List Re} (hF : FuB w b) (h : TnRs w g B d l) (hk : ∀ b', b' ≠ b → g ≤ b' → b' < B → w'.heap[b']? = w.heap[b']?) (hB : B ≤ B') : TnRs w' g B' d l :=
 ⟨h.len, h.row.keepN (fun _ _ _ h hk => h.keep hk) (fun _ h => reRow_ne hF h) hk hB, fun y hy => ⟨(h.sub y hy).nm, (h.sub y hy).fs.keepN hF hk hB⟩⟩
theorem TnU.keepN {f : Fu} (hF : FuB w b) (h : TnU w g B f) (hk : ∀ b', b' ≠ b → g ≤ b' → b' < B → w'.heap[b']? = w.heap[b']?) (hB : B ≤ B') : TnU w' g B' f := ⟨h.nm, h.ps.keepN hF hk hB, h.t, h.body.keepN hF hk hB⟩
theorem TnTs.keepN {d : Hd} {l : List Th} (hF : FuB w b) (h : TnTs w g B d l) (hk : ∀ b', b' ≠ b → g ≤ b' → b' < B → w'.heap[b']? = w.heap[b']?) (hB : B ≤ B') : TnTs w' g B' d l := by
 obtain ⟨h0, ⟨b2, h1, h2, h3, h4, h5, ⟨a0, c0, h6⟩, ⟨a1, c1, h7⟩⟩, h8, ⟨b3, cs, k1, k2, k3, k4⟩⟩ := h
 have hsl : ∃ a l c, w.cell? ⟨b2, 0, none⟩ = some (.slice a l c) := by
  cases l with
  | nil => exact ⟨_, _, _, h6⟩
  | cons t r =>
   have h := (h5 0 t rfl).c0
   rw [Nat.zero_mul] at h
   exact ⟨_, _, _, h⟩
 have hne : b2 ≠ b := by
  rintro rfl
  obtain ⟨x, hx⟩ := hF.s0
  obtain ⟨a, l, c, h⟩ := hsl
  rw [hx] at h
  simp at h
 obtain rfl : b2 = b3 := by rw [h1] at k1; injection k1 with k1; injection k1
 have hc : ∀ o, w'.cell? ⟨b2, o, none⟩ = w.cell? ⟨b2, o, none⟩ := fun o => by unfold World.cell?; rw [hk b2 hne h2 h3]
 exact ⟨h0, ⟨b2, h1, by omega, by omega, h4, fun i y hy => (h5 i y hy).keep hc, ⟨a0, c0, (hc _).trans h6⟩, ⟨a1, c1, (hc _).trans h7⟩⟩, fun y hy => (h8 y hy).keepN hF hk hB, ⟨b2, cs, k1, by omega, by omega, (hk b2 hne k2 k3).trans k4⟩⟩
end
theorem more_in {w w' : World} {g b n c : Nat} {q : Pr} {f : Fu} (hq : TnP w g w.heap.size q) (hd : q.fd.a = some ⟨b, 0, none⟩) (hk : ∀ b', b' ≠ b → g ≤ b' → b' < w.heap.size → w'.heap[b']? = w.heap[b']?) (hsz : w.heap.size ≤ w'.heap.size) (hf : FuIn w' w'.heap.size f) (hb : b < w.heap.size)
  (hrow : ∀ i y, (q.fs ++ [f])[i]? = some y → FuAt w' b (i * 6) y) : PrIn w' w'.heap.size ⟨q.rd, q.rs, q.sd, q.ss, ⟨some ⟨b, 0, none⟩, c⟩, q.fs ++ [f], q.td, q.ts⟩ := by
 have hF := FuB.of hq.fs hd
 have h1 := hq.rs.keepN hF hk hsz
 have h2 := hq.ss.keepN hF hk hsz
 have h4 := hq.ts.keepN hF hk hsz
 have hfl := hq.fs.len
 exact {
  rlen := by have := h1.len; show lenOk q.rs.length; unfold lenOk; omega
  rrow := h1.row.row
  rsub := fun r hr => ⟨(h1.sub r hr).nm, (h1.sub r hr).fs.inn⟩
  ss := h2.inn
  flen := by show lenOk (q.fs ++ [f]).length; unfold lenOk; simp; omega
  frow := fun _ => ⟨b, 0, rfl, by have := hsz; omega, fun i y hy => by rw [Nat.zero_add]; exact hrow i y hy⟩
  fsub := fun u hu => by
   rcases List.mem_append.1 hu with hu | hu
   ·have h := (hq.fs.sub u hu).keepN hF hk hsz
    exact ⟨h.nm, h.ps.inn, h.t, h.body.inn⟩
   ·rw [List.mem_singleton] at hu
    subst hu
    exact hf
  tlen := by have := h4.len; show lenOk q.ts.length; unfold lenOk; omega
  trow := (fun hne => by
   obtain ⟨b2, k1, k2, k3, k4, k5, -⟩ := h4.row
   exact ⟨b2, 0, k1, k3, fun i y hy => by rw [Nat.zero_add]; exact k5 i y hy⟩)
  tsub := fun t ht => (h4.sub t ht).inn }
theorem PrIn.noth {w : World} {B : Nat} {q : Pr} (h : PrIn w B q) : PrIn w B ⟨q.rd, q.rs, q.sd, q.ss, q.fd, q.fs, ⟨none, 0⟩, []⟩ :=
 ⟨h.rlen, h.rrow, h.rsub, h.ss, h.flen, h.frow, h.fsub, by show lenOk 0; unfold lenOk; omega, fun h => absurd rfl h, fun t ht => (by simp at ht)⟩
theorem TnU.fuIn {w : World} {g B : Nat} {f : Fu} (h : TnU w g B f) : FuIn w B f := ⟨h.nm, h.ps.inn, h.t, h.body.inn⟩
theorem fus_own {w : World} {g B b : Nat} {d : Hd} {l : List Fu} (h : TnUs w g B d l) (hd : d.a = some ⟨b, 0, none⟩) : w.ownsRow 0 53 6 (.slice (some ⟨b, 0, none⟩) l.length (l.length + 2)) l.length (l.flatMap Fu.cells) := by
 obtain ⟨b2, h1, h2, h3, h4, h5⟩ := h.row
 obtain ⟨b3, cs, k1, k2, k3, k4, k5⟩ := h.fz
 rw [hd] at h1 k1
 obtain rfl : b = b2 := by injection h1 with h1; injection h1
 obtain rfl : b = b3 := by injection k1 with k1; injection k1
 have hl : (l.flatMap Fu.cells).length = l.length * 6 := by
  clear h h5 h4 k5
  induction l with
  | nil => rfl
  | cons x r ih => rw [List.flatMap_cons, List.length_append, ih, fuCells_len, List.length_cons]; omega
 refine ⟨hl, Or.inr ⟨b, l.length + 2, cs, rfl, Nat.zero_le _, k4, by omega, by have := h.len; unfold maxLen; omega, k5, ?_⟩⟩
 apply List.ext_getElem?
 intro j
 rw [List.getElem?_take]
 by_cases hj : j < l.length * 6
 ·rw [if_pos hj]
  have hi : j / 6 < l.length := by omega
  have e : j = j / 6 * 6 + j % 6 := by omega
  have hx := List.getElem?_eq_getElem hi
  have hat := h5 (j / 6) _ (by rw [List.getElem?_append_left hi]; exact hx)
  have hr : j % 6 < 6 := Nat.mod_lt _ (by decide)
  obtain ⟨v, hv⟩ : ∃ v, (Fu.cells (l[j / 6]'hi))[j % 6]? = some v := ⟨_, List.getElem?_eq_getElem (by rw [fuCells_len]; exact hr)⟩
  have hc := fuAt_list hat (j % 6) v hv
  rw [addr_add, ← e] at hc
  have hc2 := (cell_at k4 j).symm.trans hc
  rw [Array.getElem?_toList, hc2]
  have h6 := flat_at Fu.cells 6 fuCells_len l (j / 6) (j % 6) _ hx hr
  rw [← e, hv] at h6
  exact h6.symm
 ·rw [if_neg hj, List.getElem?_eq_none (by rw [hl]; omega)]
set_option maxHeartbeats 1000000 in
theorem append_func {w : World} {g B b N ty : Nat} {d : Hd} {l : List Fu} {f : Fu} (h : TnUs w g B d l) (hd : d.a = some ⟨b, 0, none⟩) (hN : ∀ j v, f.cells[j]? = some v → w.cell? ((⟨N, 0, none⟩ : Addr).add j) = some v) :
  ∃ w', (Builtin.append_ #[24, 24] ty #[.slice (some ⟨b, 0, none⟩) l.length (l.length + 2), .slice (some ⟨N, 0, none⟩) 1 1]).run Tryz.prog w = .ok (.slice (some ⟨b, 0, none⟩) (l.length + 1) (l.length + 2)) w' ∧
   (∀ i y, (l ++ [f])[i]? = some y → FuAt w' b (i * 6) y) ∧ w.grownBy w' (some b) := by
 obtain ⟨i0, hi0, hz0, hz1, hz2⟩ := info_parts infoFu
 obtain ⟨w', hr, ho, hg⟩ := run_append_fits (P := Tryz.prog) w 0 24 ty 53 i0 6 Tryz.underlying24 hi0 hz1 b l.length (l.length + 2) _ (fus_own h hd) ⟨N, 0, none⟩ 1 1 f.cells (by rw [fuCells_len]) hN (by
  intro u hu
  have := List.all_eq_true.1 (by simpa using fuOn f) u hu
  exact this) (by omega)
 refine ⟨w', hr, fun i y hy => fuAt_of fun j hj => ?_, hg⟩
 have e : l.flatMap Fu.cells ++ f.cells = (l ++ [f]).flatMap Fu.cells := by rw [List.flatMap_append]; simp
 rw [e] at ho
 have hil : i < l.length + 1 := by have := (List.getElem?_eq_some_iff.1 hy).1; simpa using this
 rw [ho.cellAt _ (by omega)]
 exact flat_at Fu.cells 6 fuCells_len _ i j y hy hj
end Go.Proofs.YtkklogikakcanaaGreatDoor
namespace Go.Proofs.YtkklogikakcanaaGreatDoor
open Go
structure EfSup (p q : Pr) : Prop where
 fn : ∀ nm i, funOf p nm = some i → funOf q nm = some i
 sh : ∀ nm, (shOf q nm).isSome = (shOf p nm).isSome
 fs : ∀ (i : Nat) (f : Fu), p.fs[i]? = some f → ∃ f' : Fu, q.fs[i]? = some f' ∧ stripSs f'.body = stripSs f.body
def EfS.ext (s : EfS) (k : Nat) : EfS := ⟨s.does ++ List.replicate k 0, s.st ++ List.replicate k 0, s.ring⟩
theorem getD_app {l m : List Nat} {i : Nat} (h : i < l.length) : (l ++ m).getD i 0 = l.getD i 0 := by
 rw [List.getD_eq_getElem?_getD, List.getD_eq_getElem?_getD, List.getElem?_append_left h]
theorem efOwn_same {p q : Pr} (H : EfSup p q) (k : Int) (nm : List UInt8) : efOwn q k nm = efOwn p k nm := by
 unfold efOwn
 rw [H.sh nm]
mutual
theorem EvX.sup {p q : Pr} (H : EfSup p q) (k : Nat) {s s2 : EfS} {x : Ex} {e : Nat} : EvX p s x e s2 → s.Inv → s.does.length = s.st.length → ∀ x' : Ex, stripE x' = stripE x → EvX q (s.ext k) x' e (s2.ext k)
 | .call (nm := nm) hk hi h hs, g, hl, .mk k' n' nm' t' d' args', hx => by
  rw [stripE, stripE] at hx
  injection hx with e1 e2 e3 e4 e5 e6
  subst e1 e3
  exact .call hk (H.fn _ _ hi) (h.sup H k g hl) (hs.sup H k (h.le g).inv ((h.le g).even hl) args' e6)
 | .other hk hs, g, hl, .mk k' n' nm' t' d' args', hx => by
  rw [stripE, stripE] at hx
  injection hx with e1 e2 e3 e4 e5 e6
  subst e1 e3
  rw [← efOwn_same H]
  exact .other hk (hs.sup H k g hl args' e6)
termination_by structural h => h
theorem EvXs.sup {p q : Pr} (H : EfSup p q) (k : Nat) {s s2 : EfS} {l : List Ex} {e : Nat} : EvXs p s l e s2 → s.Inv → s.does.length = s.st.length → ∀ l' : List Ex, stripEs l' = stripEs l → EvXs q (s.ext k) l' e (s2.ext k)
 | .nil, g, hl, l', hx => by
  cases l' with
  | nil => exact .nil
  | cons y r => rw [stripEs, stripEs] at hx; cases hx
 | .cons h hr, g, hl, l', hx => by
  cases l' with
  | nil => rw [stripEs, stripEs] at hx; cases hx
  | cons y r =>
   rw [stripEs, stripEs] at hx
   injection hx with e1 e2
   exact .cons (h.sup H k g hl y e1) (hr.sup H k (h.le g).inv ((h.le g).even hl) r e2)
termination_by structural h => h
theorem EvSs.sup {p q : Pr} (H : EfSup p q) (k : Nat) {s s2 : EfS} {l : List St} {e : Nat} : EvSs p s l e s2 → s.Inv → s.does.length = s.st.length → ∀ l' : List St, stripSs l' = stripSs l → EvSs q (s.ext k) l' e (s2.ext k)
 | .nil, g, hl, l', hx => by
  cases l' with
  | nil => exact .nil
  | cons y r => rw [stripSs, stripSs] at hx; cases hx
 | .cons hb he hx hy hr, g, hl, l', hh => by
  cases l' with
  | nil => rw [stripSs, stripSs] at hh; cases hh
  | cons y r =>
   obtain ⟨k', nm', t', x', y', bd', body', ed', els'⟩ := y
   rw [stripSs, stripSs, stripS, stripS] at hh
   injection hh with h1 h2
   injection h1 with a1 a2 a3 a4 a5 a6 a7 a8 a9
   subst a1
   have h1 := hb.le g
   have h2' := he.le h1.inv
   have h3 := hx.le h2'.inv
   have h4 := hy.le h3.inv
   have l1 := h1.even hl
   have l2 := h2'.even l1
   have l3 := h3.even l2
   have l4 := h4.even l3
   exact .cons (hb.sup H k g hl body' a7) (he.sup H k h1.inv l1 els' a9) (hx.sup H k h2'.inv l2 x' a4) (hy.sup H k h3.inv l3 y' a5) (hr.sup H k h4.inv l4 r h2)
termination_by structural h => h
theorem EvO.sup {p q : Pr} (H : EfSup p q) (k : Nat) {s s2 : EfS} {i e : Nat} : EvO p s i e s2 → s.Inv → s.does.length = s.st.length → EvO q (s.ext k) i e (s2.ext k)
 | .fresh (s1 := s1) (f := f) h0 hf h, g, hl => by
  obtain ⟨f', hf', hst⟩ := H.fs i f hf
  have hil := (List.getElem?_eq_some_iff.1 h0).1
  have g1 := inv_look h0 g
  have hle := h.le g1
  have hil1 : i < s1.st.length := by rw [hle.len.2]; show i < (s.st.set i 1).length; rw [List.length_set]; exact hil
  have hid1 : i < s1.does.length := by rw [hle.len.1]; show i < s.does.length; omega
  have h2 := h.sup H k g1 (by dsimp only; rw [List.length_set]; exact hl) f'.body hst
  have e1 : EfS.ext ⟨s.does, s.st.set i 1, s.ring⟩ k = ⟨(s.ext k).does, (s.ext k).st.set i 1, (s.ext k).ring⟩ := by
   unfold EfS.ext
   dsimp only
   rw [List.set_append_left _ _ hil]
  have e2 : EfS.ext ⟨s1.does.set i e, s1.st.set i 2, s1.ring⟩ k = ⟨(s1.ext k).does.set i e, (s1.ext k).st.set i 2, (s1.ext k).ring⟩ := by
   unfold EfS.ext
   dsimp only
   rw [List.set_append_left _ _ hil1, List.set_append_left _ _ hid1]
  rw [e1] at h2
  rw [e2]
  exact .fresh (by unfold EfS.ext; dsimp only; rw [List.getElem?_append_left hil]; exact h0) hf' h2
 | .busy h1, g, hl => by
  have hil := (List.getElem?_eq_some_iff.1 h1).1
  rw [← getD_app (m := List.replicate k 0) (by omega : i < s.does.length)]
  exact .busy (s := s.ext k) (by unfold EfS.ext; dsimp only; rw [List.getElem?_append_left hil]; exact h1)
 | .known h2, g, hl => by
  have hil := (List.getElem?_eq_some_iff.1 h2).1
  rw [← getD_app (m := List.replicate k 0) (by omega : i < s.does.length)]
  exact .known (s := s.ext k) (by unfold EfS.ext; dsimp only; rw [List.getElem?_append_left hil]; exact h2)
termination_by structural h => h
end
mutual
theorem EvX.fix {p : Pr} {s s2 : EfS} {x : Ex} {e : Nat} : EvX p s x e s2 → s.Inv → ∀ j : Nat, s.st[j]? = some 2 → s2.does[j]? = s.does[j]?
 | .call _ _ h hs, g, j, hj => (hs.fix (h.le g).inv j ((h.le g).two j hj)).trans (h.fix g j hj)
 | .other _ hs, g, j, hj => hs.fix g j hj
termination_by structural h => h
theorem EvXs.fix {p : Pr} {s s2 : EfS} {l : List Ex} {e : Nat} : EvXs p s l e s2 → s.Inv → ∀ j : Nat, s.st[j]? = some 2 → s2.does[j]? = s.does[j]?
 | .nil, _, _, _ => rfl
 | .cons h hr, g, j, hj => (hr.fix (h.le g).inv j ((h.le g).two j hj)).trans (h.fix g j hj)
termination_by structural h => h
theorem EvSs.fix {p : Pr} {s s2 : EfS} {l : List St} {e : Nat} : EvSs p s l e s2 → s.Inv → ∀ j : Nat, s.st[j]? = some 2 → s2.does[j]? = s.does[j]?
 | .nil, _, _, _ => rfl
 | .cons hb he hx hy hr, g, j, hj => by
  have h1 := hb.le g
  have h2 := he.le h1.inv
  have h3 := hx.le h2.inv
  have h4 := hy.le h3.inv
  have t1 := h1.two j hj
  have t2 := h2.two j t1
  have t3 := h3.two j t2
  have t4 := h4.two j t3
  exact (hr.fix h4.inv j t4).trans ((hy.fix h3.inv j t3).trans ((hx.fix h2.inv j t2).trans ((he.fix h1.inv j t1).trans (hb.fix g j hj))))
termination_by structural h => h
theorem EvO.fix {p : Pr} {s s2 : EfS} {i e : Nat} : EvO p s i e s2 → s.Inv → ∀ j : Nat, s.st[j]? = some 2 → s2.does[j]? = s.does[j]?
 | .fresh h0 _ h, g, j, hj => by
  have hji : i ≠ j := fun hh => by subst hh; rw [h0] at hj; cases hj
  dsimp only
  rw [List.getElem?_set_ne hji]
  exact h.fix (inv_look h0 g) j (by dsimp only; rw [List.getElem?_set_ne hji]; exact hj)
 | .busy _, _, _, _ => rfl
 | .known _, _, _, _ => rfl
termination_by structural h => h
end
theorem EvL.sup {p q : Pr} (H : EfSup p q) (hle : p.fs.length ≤ q.fs.length) (k : Nat) {i : Nat} {s s2 : EfS} (h : EvL p i s s2) : s.Inv → s.does.length = s.st.length → i ≤ p.fs.length → ∀ t, EvL q p.fs.length (s2.ext k) t → EvL q i (s.ext k) t := by
 induction h with
 | done hi => intro g hl hil t ht; rwa [show _ = p.fs.length from Nat.le_antisymm hil hi]
 | step hi h hr ih =>
  intro g hl hil t ht
  exact .step (by omega) (h.sup H k g hl) (ih (h.le g).inv ((h.le g).even hl) (by omega) t ht)
theorem ext_new {p q : Pr} {k : Nat} (h : q.fs.length = p.fs.length + k) : (efNew p).ext k = efNew q := by
 unfold efNew EfS.ext
 rw [h]
 dsimp only
 rw [List.replicate_append_replicate]
theorem EvL.along {p q : Pr} (H : EfSup p q) (hle : p.fs.length ≤ q.fs.length) (k : Nat) {i : Nat} {s s2 : EfS} (h : EvL p i s s2) : s.Inv → s.does.length = s.st.length → i ≤ p.fs.length → ∀ t, EvL q i (s.ext k) t → EvL q p.fs.length (s2.ext k) t := by
 induction h with
 | done hi => intro g hl hil t ht; rwa [show _ = p.fs.length from Nat.le_antisymm hil hi] at ht
 | step hi h hr ih =>
  intro g hl hil t ht
  cases ht with
  | done hi2 => omega
  | step hi2 h2 hr2 =>
   obtain ⟨-, rfl⟩ := h2.det (h.sup H k g hl)
   exact ih (h.le g).inv ((h.le g).even hl) (by omega) t hr2
theorem efl_same {p q : Pr} (H : EfSup p q) (hl : q.fs.length = p.fs.length) {s : EfS} (h : EvL p 0 (efNew p) s) : EvL q 0 (efNew q) s := by
 have h2 := h.sup H (by omega) 0 (efNew_inv p) (by simp [efNew]) (Nat.zero_le _) s (by
  have : s.ext 0 = s := by unfold EfS.ext; simp
  rw [this]
  exact .done (by omega))
 rwa [ext_new (k := 0) (by omega)] at h2
theorem efl_more {p q : Pr} (H : EfSup p q) (hl : q.fs.length = p.fs.length + 1) {s t : EfS} (h : EvL p 0 (efNew p) s) (h2 : EvL q 0 (efNew q) t) : t.does.length = s.does.length + 1 ∧ ∀ j : Nat, j < s.does.length → t.does[j]? = s.does[j]? := by
 have hE := evL_new h
 have hT := evL_new h2
 refine ⟨by rw [hT.dl, hE.dl, hl], fun j hj => ?_⟩
 have hn : p.fs.length < (s.ext 1).st.length := by unfold EfS.ext; simp [hE.tl]
 have hsplit : EvL q p.fs.length (s.ext 1) t := h.along H (by omega) 1 (efNew_inv p) (by simp [efNew]) (Nat.zero_le _) t (by rw [ext_new hl]; exact h2)
 have hinv : (s.ext 1).Inv := fun i hi => by
  unfold EfS.ext at hi ⊢
  dsimp only at hi ⊢
  by_cases hlt : i < s.st.length
  ·rw [List.getElem?_append_left hlt] at hi
   exact absurd (hE.known i hlt) hi
  ·rw [List.getD_eq_getElem?_getD, List.getElem?_append_right (by rw [hE.dl, ← hE.tl]; omega)]
   cases hr : (List.replicate 1 0)[i - s.does.length]? with
   | none => rfl
   | some u => have := List.eq_of_mem_replicate (List.mem_of_getElem? hr); subst this; rfl
 have hk2 : (s.ext 1).st[j]? = some 2 := by
  unfold EfS.ext
  dsimp only
  have : j < s.st.length := by rw [hE.tl, ← hE.dl]; exact hj
  rw [List.getElem?_append_left this]
  exact hE.known j this
 have hd : (s.ext 1).does[j]? = s.does[j]? := by unfold EfS.ext; dsimp only; rw [List.getElem?_append_left hj]
 rw [← hd]
 cases hsplit with
 | done hi => omega
 | step hi ho hr =>
  cases hr with
  | done _ => exact ho.fix hinv j hk2
  | step hi2 _ _ => omega
structure EfSim (p q : Pr) : Prop where
 fn : ∀ nm, funOf q nm = funOf p nm
 sh : ∀ nm, (shOf q nm).isSome = (shOf p nm).isSome
 fs : q.fs.map stripF = p.fs.map stripF
 heads : q.rs.length = p.rs.length ∧ q.ss.length = p.ss.length
theorem map_at {α β : Type} {f : α → β} {l m : List α} (h : l.map f = m.map f) {i : Nat} {x : α} (hx : m[i]? = some x) : ∃ y, l[i]? = some y ∧ f y = f x := by
 have h1 := congrArg (fun l => l[i]?) h
 simp only [List.getElem?_map, hx, Option.map_some] at h1
 cases hl : l[i]? with
 | none => rw [hl] at h1; cases h1
 | some y => rw [hl] at h1; simp only [Option.map_some, Option.some.injEq] at h1; exact ⟨y, rfl, h1⟩
theorem stripF_eq {f g : Fu} (h : stripF f = stripF g) : f.nm = g.nm ∧ f.ps = g.ps ∧ f.t = g.t ∧ stripSs f.body = stripSs g.body := by
 unfold stripF at h
 injection h with h1 h2 h3 h4 h5 h6
 exact ⟨h1, h3, h4, h6⟩
theorem EfSim.sup {p q : Pr} (H : EfSim p q) : EfSup p q :=
 ⟨fun nm i h => (H.fn nm).trans h, H.sh, fun i f hf => by
  obtain ⟨g, hg, hs⟩ := map_at H.fs hf
  exact ⟨g, hg, (stripF_eq hs).2.2.2⟩⟩
theorem EfSim.len {p q : Pr} (H : EfSim p q) : q.fs.length = p.fs.length := by have := congrArg List.length H.fs; simpa using this
mutual
theorem vX_same {p q : Pr} (H : EfSim p q) (d : List Nat) : ∀ x x' : Ex, stripE x' = stripE x → vX q d x' = vX p d x
 | .mk k n nm t hd args, .mk k' n' nm' t' hd' args', h => by
  rw [stripE, stripE] at h
  injection h with e1 e2 e3 e4 e5 e6
  subst e1 e3
  rw [vX, vX, H.fn, efOwn_same H.sup, vXs_same H d args args' e6]
theorem vXs_same {p q : Pr} (H : EfSim p q) (d : List Nat) : ∀ l l' : List Ex, stripEs l' = stripEs l → vXs q d l' = vXs p d l
 | [], [], _ => by rw [vXs, vXs]
 | [], y :: r, h => by rw [stripEs, stripEs] at h; cases h
 | x :: l, [], h => by rw [stripEs, stripEs] at h; cases h
 | x :: l, y :: r, h => by
  rw [stripEs, stripEs] at h
  injection h with h1 h2
  rw [vXs, vXs, vX_same H d x y h1, vXs_same H d l r h2]
end
mutual
theorem wrS_same {p q : Pr} (H : EfSim p q) (d : List Nat) : ∀ (s s' : St) (w : Wh) (a : Int), stripS s' = stripS s → wrS q d w s' a = wrS p d w s a
 | .mk k nm t x y bd body ed els, .mk k' nm' t' x' y' bd' body' ed' els', w, a, h => by
  rw [stripS, stripS] at h
  injection h with a1 a2 a3 a4 a5 a6 a7 a8 a9
  subst a1
  have hv : vOwn q d k' x' y' = vOwn p d k' x y := by unfold vOwn; rw [vX_same H d x x' a4, vX_same H d y y' a5]
  rw [wrS, wrS, hv, wrSs_same H d body body' _ _ a7]
  split
  ·rfl
  ·cases wrSs p d ⟨w.atomic || decide (k' = 5), w.thread, w.touching⟩ body (a + 1) with
   | found q => rfl
   | on a1 => exact wrSs_same H d els els' _ _ a9
theorem wrSs_same {p q : Pr} (H : EfSim p q) (d : List Nat) : ∀ (l l' : List St) (w : Wh) (a : Int), stripSs l' = stripSs l → wrSs q d w l' a = wrSs p d w l a
 | [], [], _, _, _ => by rw [wrSs, wrSs]
 | [], y :: r, _, _, h => by rw [stripSs, stripSs] at h; cases h
 | x :: l, [], _, _, h => by rw [stripSs, stripSs] at h; cases h
 | x :: l, y :: r, w, a, h => by
  rw [stripSs, stripSs] at h
  injection h with h1 h2
  rw [wrSs, wrSs, wrS_same H d x y w a h1]
  cases wrS p d w x a with
  | found q => rfl
  | on a1 => exact wrSs_same H d l r w a1 h2
end
mutual
theorem exCl_same {p q : Pr} (H : EfSim p q) : ∀ x x' : Ex, stripE x' = stripE x → exCl q x' = exCl p x
 | .mk k n nm t hd args, .mk k' n' nm' t' hd' args', h => by
  rw [stripE, stripE] at h
  injection h with e1 e2 e3 e4 e5 e6
  subst e1 e3
  rw [exCl, exCl, H.fn, exCls_same H args args' e6]
theorem exCls_same {p q : Pr} (H : EfSim p q) : ∀ l l' : List Ex, stripEs l' = stripEs l → exCls q l' = exCls p l
 | [], [], _ => by rw [exCls, exCls]
 | [], y :: r, h => by rw [stripEs, stripEs] at h; cases h
 | x :: l, [], h => by rw [stripEs, stripEs] at h; cases h
 | x :: l, y :: r, h => by
  rw [stripEs, stripEs] at h
  injection h with h1 h2
  rw [exCls, exCls, exCl_same H x y h1, exCls_same H l r h2]
end
mutual
theorem stCl_same {p q : Pr} (H : EfSim p q) : ∀ s s' : St, stripS s' = stripS s → stCl q s' = stCl p s
 | .mk k nm t x y bd body ed els, .mk k' nm' t' x' y' bd' body' ed' els', h => by
  rw [stripS, stripS] at h
  injection h with a1 a2 a3 a4 a5 a6 a7 a8 a9
  rw [stCl, stCl, exCl_same H x x' a4, exCl_same H y y' a5, stCls_same H body body' a7, stCls_same H els els' a9]
theorem stCls_same {p q : Pr} (H : EfSim p q) : ∀ l l' : List St, stripSs l' = stripSs l → stCls q l' = stCls p l
 | [], [], _ => by rw [stCls, stCls]
 | [], y :: r, h => by rw [stripSs, stripSs] at h; cases h
 | x :: l, [], h => by rw [stripSs, stripSs] at h; cases h
 | x :: l, y :: r, h => by
  rw [stripSs, stripSs] at h
  injection h with h1 h2
  rw [stCls, stCls, stCl_same H x y h1, stCls_same H l r h2]
end
theorem callsOf_same {p q : Pr} (H : EfSim p q) (n : Nat) : callsOf q n = callsOf p n := by
 unfold callsOf
 cases hf : p.fs[n]? with
 | none =>
  have : q.fs[n]? = none := by
   rw [List.getElem?_eq_none_iff] at hf ⊢
   rw [H.len]; exact hf
  rw [this]
 | some f =>
  obtain ⟨g, hg, hs⟩ := map_at H.fs hf
  rw [hg]
  exact stCls_same H f.body g.body (stripF_eq hs).2.2.2
mutual
theorem BkN.same {p q : Pr} (H : EfSim p q) {i n : Nat} {f g : Nat → Nat} {b : Bool} : BkN p i f n b g → BkN q i f n b g
 | .mk h => .mk (by rw [callsOf_same H]; exact h.same H)
termination_by structural h => h
theorem BkL.same {p q : Pr} (H : EfSim p q) {i : Nat} {l : List Nat} {f g : Nat → Nat} {b : Bool} : BkL p i f l b g → BkL q i f l b g
 | .nil => .nil
 | .hit hm => .hit hm
 | .found hm h0 h => .found hm h0 (h.same H)
 | .on hm h0 h hr => .on hm h0 (h.same H) (hr.same H)
 | .met hm h0 hr => .met hm h0 (hr.same H)
termination_by structural h => h
end
theorem plSts_of {l l' : List St} (h : stripSs l' = stripSs l) : plSts l' = plSts l := by rw [← plSts_strip l', h, plSts_strip l]
theorem RgL.same {p q : Pr} (H : EfSim p q) {i : Nat} {l : List Fu} {a : Int} {o : Option Int} (h : RgL p i l a o) : ∀ l' : List Fu, l'.map stripF = l.map stripF → RgL q i l' a o := by
 induction h with
 | nil => intro l' hl; cases l' with
  | nil => exact .nil
  | cons g r => simp at hl
 | hit h => intro l' hl; cases l' with
  | nil => simp at hl
  | cons g r =>
   obtain ⟨f', hf'⟩ := h
   exact .hit ⟨f', hf'.same H⟩
 | on h hr ih => intro l' hl; cases l' with
  | nil => simp at hl
  | cons g r =>
   simp only [List.map_cons, List.cons.injEq] at hl
   obtain ⟨f', hf'⟩ := h
   refine .on ⟨f', hf'.same H⟩ ?_
   rw [plSts_of (stripF_eq hl.1).2.2.2]
   exact ih r hl.2
theorem wrFu_same {p q : Pr} (H : EfSim p q) (d : List Nat) : ∀ (l l' : List Fu) (i : Nat) (a : Int), l'.map stripF = l.map stripF → wrFu q d l' i a = wrFu p d l i a
 | [], [], _, _, _ => rfl
 | [], y :: r, _, _, h => by simp at h
 | x :: l, [], _, _, h => by simp at h
 | f :: l, g :: r, i, a, h => by
  simp only [List.map_cons, List.cons.injEq] at h
  obtain ⟨h1, h2, h3, h4⟩ := stripF_eq h.1
  rw [wrFu, wrFu, h3, wrSs_same H d f.body g.body _ _ h4]
  split
  ·rfl
  ·cases wrSs p d ⟨false, false, decide (d.getD i 0 &&& 1 ≠ 0)⟩ f.body (a + 1) with
   | found q => rfl
   | on a1 => exact wrFu_same H d l r (i + 1) a1 h.2
theorem efC_noth {p q : Pr} (H : EfSim p q) (ht : q.ts = []) (hT : (typesCheck q).2 = 0) {a : Int} (h : EfC p (a, 0)) {F : Int × Int} (h2 : EfC q F) : F.2 = 0 := by
 have hR : ∃ s, EvL p 0 (efNew p) s ∧ (s.ring = false ∨ (s.ring = true ∧ RgL p 0 p.fs ((p.rs.length + p.ss.length : Nat) : Int) none)) ∧ (efRest p s.does).2 = 0 := by
  generalize hr : (a, (0 : Int)) = R at h
  cases h with
  | unfit _ => cases hr
  | ring _ _ _ _ => cases hr
  | rest ht hl h => exact ⟨_, hl, h, by rw [← hr]⟩
 obtain ⟨s, hl, hg, hz⟩ := hR
 have h3 : EfC q (efRest q s.does) := .rest hT (efl_same H.sup H.len hl) (by
  rcases hg with hg | ⟨hg, hr⟩
  ·exact Or.inl hg
  ·exact Or.inr ⟨hg, by rw [H.heads.1, H.heads.2]; exact hr.same H q.fs H.fs⟩)
 have h4 : efRest q s.does = (0, 0) := by
  obtain ⟨b, hb⟩ := efRest_on hz
  unfold efRest
  rw [H.heads.1, H.heads.2, wrFu_same H s.does p.fs q.fs _ _ H.fs, hb, ht]
  rfl
 rw [h4] at h3
 rw [h2.det h3]
end Go.Proofs.YtkklogikakcanaaGreatDoor
namespace Go.Proofs.YtkklogikakcanaaGreatDoor
open Go Go.RowKit
abbrev SmS (b1 b2 j : Nat) (e : Nat) (W : World) : Prop := W.cell? ⟨b1, j, none⟩ = some (.int .u8 (e : Int)) ∧ W.cell? ⟨b2, j, none⟩ = some (.int .u8 (e : Int))
set_option maxHeartbeats 4000000 in
set_option maxRecDepth 100000 in
theorem same06_any (l : List Nat) (b1 b2 c1 c2 : Nat) (w : World) (h1 : ∀ (j e : Nat), l[j]? = some e → w.cell? ⟨b1, j, none⟩ = some (.int .u8 (e : Int))) (h2 : ∀ (j e : Nat), l[j]? = some e → w.cell? ⟨b2, j, none⟩ = some (.int .u8 (e : Int))) (hl : l.length ≤ 1000000) :
  Calls Tryz.prog 29 #[.slice (some ⟨b1, 0, none⟩) l.length c1, .slice (some ⟨b2, 0, none⟩) l.length c2] w fun e w' => e = .returned (.bool true) ∧ Below w.heap.size w w' := by
 have HC : Hid (∀ W, Below w.heap.size w W → ∀ (j e : Nat), l[j]? = some e → SmS b1 b2 j e W) := Lib.hid fun W hb j e he =>
  ⟨(hb.cell (p := ⟨b1, j, none⟩) (World.block_lt_of_cell? _ _ (h1 j e he))).trans (h1 j e he), (hb.cell (p := ⟨b2, j, none⟩) (World.block_lt_of_cell? _ _ (h2 j e he))).trans (h2 j e he)⟩
 have HB0 : Hid (Below w.heap.size w w) := Lib.hid (Below.refl _ _)
 clear h1 h2
 go_enter Tryz.func29, Tryz.ntmps29
 go_wp2_with fail
 go_loopw [5] (fun ii wr => ∃ (j : Nat), ii = .int .i64 j ∧ j ≤ l.length ∧ Hid (Below w.heap.size w wr)) (fun ii _ => l.length - (intOf ii).toNat)
 case atStart => exact ⟨0, rfl, Nat.zero_le _, HB0⟩
 case round =>
  obtain ⟨j, rfl, hj, hB⟩ := hrel
  clear HB0
  have p2 : (0 : Int) ≤ (j : Int) := Int.natCast_nonneg _
  by_cases hlt : j < l.length
  ·obtain ⟨ev, he⟩ : ∃ ev, l[j]? = some ev := ⟨_, List.getElem?_eq_getElem hlt⟩
   have HS : Hid (SmS b1 b2 j ev wr.drew) := Lib.hid (HC.out _ hB.out.drew j ev he)
   have p1 : (j : Int) < (l.length : Int) := by omega
   have HBd : Hid (Below w.heap.size w wr.drew) := Lib.hid hB.out.drew
   clear he
   go_wp2_with fail
   refine wp_region_L (l := 8) (S := (SmS b1 b2 j ev)) (by kernel_rfl) ?_ (fun hHeld => ?_)
   ·((try dsimp only); (exact HS.out))
   refine wpAnyL_take (i := 0) (oi := _) (v := ?v1) rfl (by kernel_rfl) (fun _ _ _ h => h) (by assumption) (Or.inl ⟨by kernel_rfl, ?y1⟩) ?r1
   case y1 => (intro w hSw; (try dsimp only at hSw); go_simp; all_goals with_reducible rfl)
   try simp only [sl1, sl2, sl3, Act.put, sl4, sl5, sl6]
   refine wpAnyL_take (i := 1) (oi := _) (v := ?v2) rfl (by kernel_rfl) (fun _ _ _ h => h) (by assumption) (Or.inl ⟨by kernel_rfl, ?y2⟩) ?r2
   case y2 => (intro w hSw; (try dsimp only at hSw); go_simp; all_goals with_reducible rfl)
   try simp only [sl1, sl2, sl3, Act.put, sl4, sl5, sl6]
   refine wpAnyL_take (i := 2) (oi := _) (v := ?v3) rfl (by kernel_rfl) (fun _ _ _ h => h) (by assumption) (Or.inl ⟨by kernel_rfl, ?y3⟩) ?r3
   case y3 => (intro w hSw; (try dsimp only at hSw); go_simp; all_goals with_reducible rfl)
   try simp only [sl1, sl2, sl3, Act.put, sl4, sl5, sl6]
   refine wpAnyL_take (i := 3) (oi := _) (v := ?v4) rfl (by kernel_rfl) (fun _ _ _ h => h) (by assumption) (Or.inl ⟨by kernel_rfl, ?y4⟩) ?r4
   case y4 => (intro w hSw; (try dsimp only at hSw); go_simp; all_goals with_reducible rfl)
   try simp only [sl1, sl2, sl3, Act.put, sl4, sl5, sl6]
   refine wpAnyL_take (i := 4) (oi := _) (v := ?v5) rfl (by kernel_rfl) (fun _ _ _ h => h) (by assumption) (Or.inl ⟨by kernel_rfl, ?y5⟩) ?r5
   case y5 => (intro w hSw; (try dsimp only at hSw); go_simp; all_goals with_reducible rfl)
   try simp only [sl1, sl2, sl3, Act.put, sl4, sl5, sl6]
   refine wpAnyL_take (i := 5) (oi := _) (v := ?v6) rfl (by kernel_rfl) (fun _ _ _ h => h) (by assumption) (Or.inl ⟨by kernel_rfl, ?y6⟩) ?r6
   case y6 => (intro w hSw; (try dsimp only at hSw); go_simp; all_goals with_reducible rfl)
   try simp only [sl1, sl2, sl3, Act.put, sl4, sl5, sl6]
   refine wpAnyL_take (i := 6) (oi := _) (v := ?v7) rfl (by kernel_rfl) (fun _ _ _ h => h) (by assumption) (Or.inl ⟨by kernel_rfl, ?y7⟩) ?r7
   case y7 => (intro w hSw; (try dsimp only at hSw); go_simp; all_goals with_reducible rfl)
   try simp only [sl1, sl2, sl3, Act.put, sl4, sl5, sl6]
   refine wpAnyL_take (i := 7) (oi := _) (v := ?v8) rfl (by kernel_rfl) (fun _ _ _ h => h) (by assumption) (Or.inl ⟨by kernel_rfl, ?y8⟩) ?r8
   case y8 => (intro w hSw; (try dsimp only at hSw); go_simp; all_goals with_reducible rfl)
   try simp only [sl1, sl2, sl3, Act.put, sl4, sl5, sl6]
   refine wpAnyL_last (j := 8) (o := _) (by kernel_rfl) rfl (by rfl) (by kernel_rfl) (fun K hK => ?_)
   go_simp
   (refine hK _ _ ?_; clear hK K)
   try simp only [sl1, sl2, sl3, Act.put, sl4, sl5, sl6]
   go_wp2_with fail
   go_roundw
   case rel => exact ⟨j + 1, by go_num, by omega, HBd⟩
   case measure => simp [intOf]; omega
  ·obtain rfl : j = l.length := by omega
   go_wp2_with fail
   go_ret
   exact ⟨rfl, hB.out⟩
set_option maxHeartbeats 400000 in
set_option maxRecDepth 100000 in
theorem beyond2_any (b c : Nat) (x y : Int) (h1 : 0 ≤ x) (h2 : x ≤ 262145) (h3 : 0 ≤ y) (h4 : y ≤ 262145) (w : World) (hc : w.cell? ⟨b, 0, none⟩ = some (.int .i64 x)) (hd : w.cell? ⟨b, 1, none⟩ = some (.int .i64 y)) :
  Calls Tryz.prog 7 #[.slice (some ⟨b, 0, none⟩) 2 c] w fun e w' => e = .returned (.bool (decide (262144 < x + y))) ∧ w = w' := by
 by_cases hx : 262144 < x
 ·rw [show decide (262144 < x + y) = true by simp; omega]
  go_enter Tryz.func7, Tryz.ntmps7
  go_wp2
  refine wp_loop_rounds 1 ?_
  rw [rounds_succ]
  go_wp2
  go_ret
  exact ⟨rfl, rfl⟩
 ·by_cases hy : 262144 < y
  ·rw [show decide (262144 < x + y) = true by simp; omega]
   go_enter Tryz.func7, Tryz.ntmps7
   go_wp2
   refine wp_loop_rounds 2 ?_
   rw [rounds_succ]
   go_wp2
   rw [rounds_succ]
   go_wp2
   go_ret
   exact ⟨rfl, rfl⟩
  ·by_cases hs : 262144 < x + y
   ·rw [show decide (262144 < x + y) = true by simpa using hs]
    go_enter Tryz.func7, Tryz.ntmps7
    go_wp2
    refine wp_loop_rounds 2 ?_
    rw [rounds_succ]
    go_wp2
    rw [rounds_succ]
    go_wp2
    go_ret
    exact ⟨rfl, rfl⟩
   ·rw [show decide (262144 < x + y) = false by simpa using hs]
    go_enter Tryz.func7, Tryz.ntmps7
    go_wp2
    refine wp_loop_rounds 3 ?_
    rw [rounds_succ]
    go_wp2
    rw [rounds_succ]
    go_wp2
    rw [rounds_succ]
    go_wp2
    go_ret
    exact ⟨rfl, rfl⟩
abbrev fuPr (Q : Nat) (f : Fu) : Pr := ⟨⟨none, 0⟩, [], ⟨none, 0⟩, [], ⟨some ⟨Q, 0, none⟩, 1⟩, [f], ⟨none, 0⟩, []⟩
abbrev fuObj (f : Fu) : Obj := .cells #[.string ⟨f.nm.toArray⟩, .slice f.pd.a f.ps.length f.pd.c, .int .u8 f.t.k, .string ⟨f.t.nm.toArray⟩, .int .i64 f.t.n, .slice f.bd.a f.body.length f.bd.c] 53 (0, 0)
theorem fuPr_in {Q B : Nat} {f : Fu} {w : World} (hq : w.heap[Q]? = some (fuObj f)) (hf : FuIn w B f) (hQ : Q < B) : PrIn w B (fuPr Q f) := by
 have h0 : lenOk 0 := by unfold lenOk; omega
 refine ⟨h0, fun h => absurd rfl h, fun r hr => (by simp at hr), ⟨h0, fun h => absurd rfl h, fun r hr => (by simp at hr)⟩, (by unfold lenOk; simp), fun _ => ⟨Q, 0, rfl, hQ, fun i y hy => ?_⟩, fun u hu => ?_, h0, fun h => absurd rfl h, fun r hr => (by simp at hr)⟩
 ·cases i with
  | zero =>
   simp only [sl8, Option.some.injEq] at hy
   subst hy
   exact ⟨cell_at hq 0, cell_at hq 1, cell_at hq 2, cell_at hq 3, cell_at hq 4, cell_at hq 5⟩
  | succ i => simp at hy
 ·rw [List.mem_singleton] at hu
  subst hu
  exact hf
theorem strip_parts {p q : Pr} (h : stripP q = stripP p) : q.rs.map stripR = p.rs.map stripR ∧ q.ss = p.ss ∧ q.fs.map stripF = p.fs.map stripF ∧ q.ts.map stripT = p.ts.map stripT := by
 unfold stripP at h
 injection h with h1 h2 h3 h4 h5 h6 h7 h8
 exact ⟨h2, h4, h6, h8⟩
theorem idxOf_maps {α β : Type} (f : α → List UInt8) (g : β → List UInt8) (nm : List UInt8) : ∀ (l : List α) (m : List β), l.map f = m.map g → idxOf f nm l = idxOf g nm m
 | [], [], _ => rfl
 | [], _ :: _, h => by simp at h
 | _ :: _, [], h => by simp at h
 | x :: l, y :: m, h => by
  simp only [List.map_cons, List.cons.injEq] at h
  rw [idxOf, idxOf, h.1, idxOf_maps f g nm l m h.2]
theorem idxOf_app {α : Type} (f : α → List UInt8) (nm : List UInt8) : ∀ (l m : List α) (i : Nat), idxOf f nm l = some i → idxOf f nm (l ++ m) = some i
 | [], m, i, h => by cases h
 | x :: l, m, i, h => by
  rw [List.cons_append]
  rw [idxOf] at h ⊢
  split at h
  ·next e => rw [if_pos e]; exact h
  ·next e =>
   rw [if_neg e]
   cases hl : idxOf f nm l with
   | none => rw [hl] at h; cases h
   | some j => rw [hl] at h; rw [idxOf_app f nm l m j hl]; exact h
theorem funs_same {l m : List Fu} (h : l.map stripF = m.map stripF) (nm : List UInt8) : idxOf Fu.nm nm l = idxOf Fu.nm nm m :=
 idxOf_maps _ _ nm l m (by
  have := congrArg (List.map Fu.nm) h
  simp only [List.map_map] at this
  exact this)
abbrev noTh (q : Pr) : Pr := ⟨q.rd, q.rs, q.sd, q.ss, q.fd, q.fs, ⟨none, 0⟩, []⟩
theorem sim_noth {p q : Pr} (h : stripP q = stripP p) : EfSim p (noTh q) := by
 obtain ⟨h1, h2, h3, -⟩ := strip_parts h
 exact ⟨fun nm => funs_same h3 nm, fun nm => by unfold shOf; rw [show (noTh q).ss = p.ss from h2], h3, by have := congrArg List.length h1; simpa using this, by show q.ss.length = _; rw [h2]⟩
theorem types_noth {p q : Pr} (h : stripP q = stripP p) (hT : (typesCheck p).2 = 0) : (typesCheck (noTh q)).2 = 0 := by
 have h1 : stripP (noTh q) = stripP (noTh p) := by
  unfold stripP at h ⊢
  injection h with h1 h2 h3 h4 h5 h6 h7 h8
  show Pr.mk _ _ _ _ _ _ _ _ = Pr.mk _ _ _ _ _ _ _ _
  rw [show (noTh q).rs = q.rs from rfl, show (noTh q).ss = q.ss from rfl, show (noTh q).fs = q.fs from rfl, h2, h4, h6]
 rw [typesCheck_same h1, types_less (p := p) (q := noTh p) ⟨rfl, rfl, rfl⟩ (types_ok hT).1 (Nat.zero_le _) (by simp) (fun t ht => by simp at ht)]
abbrev plusF (q : Pr) (d : Hd) (f : Fu) : Pr := ⟨q.rd, q.rs, q.sd, q.ss, d, q.fs ++ [f], q.td, q.ts⟩
theorem sup_more {p q : Pr} (h : stripP q = stripP p) (d : Hd) (f : Fu) : EfSup p (plusF q d f) := by
 obtain ⟨h1, h2, h3, -⟩ := strip_parts h
 refine ⟨fun nm i hi => ?_, fun nm => by unfold shOf; rw [show (plusF q d f).ss = p.ss from h2], fun i g hg => ?_⟩
 ·exact idxOf_app _ _ _ _ _ ((funs_same h3 nm).trans hi)
 ·obtain ⟨g', hg', hs⟩ := map_at h3 hg
  exact ⟨g', by show (q.fs ++ [f])[i]? = _; rw [List.getElem?_append_left (List.getElem?_eq_some_iff.1 hg').1]; exact hg', (stripF_eq hs).2.2.2⟩
end Go.Proofs.YtkklogikakcanaaGreatDoor
namespace Go.Proofs.YtkklogikakcanaaGreatDoor
open Go Go.RowKit
structure MoG (w : World) : Prop where
 ef : EfGl w.heap.size w
 gg : Globs w
abbrev PfS (X Y : Nat) (p : Pr) (f : Fu) (W : World) : Prop := (W.cell? ⟨X, 0, none⟩ = some (.slice p.rd.a p.rs.length p.rd.c) ∧ W.cell? ⟨X, 1, none⟩ = some (.slice p.sd.a p.ss.length p.sd.c) ∧ W.cell? ⟨X, 2, none⟩ = some (.slice p.fd.a p.fs.length p.fd.c) ∧ W.cell? ⟨X, 3, none⟩ = some (.slice p.td.a p.ts.length p.td.c)) ∧
 W.cell? ⟨Y, 0, none⟩ = some (.string ⟨f.nm.toArray⟩) ∧ W.cell? ⟨Y, 1, none⟩ = some (.slice f.pd.a f.ps.length f.pd.c) ∧ W.cell? ⟨Y, 2, none⟩ = some (.int .u8 f.t.k) ∧ W.cell? ⟨Y, 3, none⟩ = some (.string ⟨f.t.nm.toArray⟩) ∧ W.cell? ⟨Y, 4, none⟩ = some (.int .i64 f.t.n) ∧ W.cell? ⟨Y, 5, none⟩ = some (.slice f.bd.a f.body.length f.bd.c)
theorem PfS.of {X Y : Nat} {p : Pr} {f : Fu} {W : World} (h : W.heap[X]? = some (prObj p) ∧ W.heap[Y]? = some (fuObj f)) : PfS X Y p f W :=
 ⟨⟨cell_at h.1 0, cell_at h.1 1, cell_at h.1 2, cell_at h.1 3⟩, cell_at h.2 0, cell_at h.2 1, cell_at h.2 2, cell_at h.2 3, cell_at h.2 4, cell_at h.2 5⟩
theorem wp_app_run {P : Program} {o : Oper} {a : Act} {w : World} {K : Act → World → Prop} {Q : Exit → Act → World → Prop} (s x : Operand) (t : TypeId)
  (ho : o.op = .call { callee := .builtin .append, args := #[s, x], argTypes := #[t, t] }) (v v2 : Value) (hs : a.eval s = v) (hx : a.eval x = v2) (v' : Value) (w' : World)
  (hr : (Builtin.append_ #[t, t] o.type #[v, v2]).run P w = .ok v' w') (h : K (a.put o.dst v') w') : o.wp P a w K Q := by
 unfold Oper.wp execOp
 simp only [ho, resolve, invoke, builtin, Sem.run_bind, Sem.run_pure, Result.andThen_ok, List.map_toArray, List.map_cons, List.map_nil, hs, hx, hr]
 exact h
theorem set4_kept (w : World) (Q : Nat) (a b c d : Value) : Kept (· = Q) w ((((w.setCell ⟨Q, 0, none⟩ a).setCell ⟨Q, 1, none⟩ b).setCell ⟨Q, 2, none⟩ c).setCell ⟨Q, 3, none⟩ d) := by
 have h1 : Kept (· = Q) w (w.setCell ⟨Q, 0, none⟩ a) := Kept.setCell (S := (· = Q)) (Kept.refl _ w) (p := ⟨Q, 0, none⟩) (Or.inl rfl) a
 have h2 := h1.setCell (p := ⟨Q, 1, none⟩) (Or.inl rfl) b
 have h3 := h2.setCell (p := ⟨Q, 2, none⟩) (Or.inl rfl) c
 exact h3.setCell (p := ⟨Q, 3, none⟩) (Or.inl rfl) d
theorem set4_row {w : World} {Q : Nat} {v0 v1 v2 v3 : Value} {T : TypeId} (h : w.heap[Q]? = some (.cells #[v0, v1, v2, v3] T (0, 0))) (a b c d : Value) :
  ((((w.setCell ⟨Q, 0, none⟩ a).setCell ⟨Q, 1, none⟩ b).setCell ⟨Q, 2, none⟩ c).setCell ⟨Q, 3, none⟩ d).heap[Q]? = some (.cells #[a, b, c, d] T (0, 0)) := by
 have h1 := row_set h 0 a
 have h2 := row_set h1 1 b
 have h3 := row_set h2 2 c
 have h4 := row_set h3 3 d
 simpa only [sl4, sl5, sl6] using h4
abbrev MfS (Q b n X : Nat) (p : Pr) (f : Fu) (W : World) : Prop := W.cell? ⟨Q, 2, none⟩ = some (.slice (some ⟨b, 0, none⟩) n (n + 2)) ∧ PfS X (X + 1) p f W
set_option maxHeartbeats 16000000 in
set_option maxRecDepth 100000 in
theorem effectMore_walk (p : Pr) (f : Fu) (w : World) (hI : PrIn w w.heap.size p) (hf : FuIn w w.heap.size f) (G : MoG w) :
  Calls Tryz.prog 6 #[.agg p.cells.toArray, .agg f.cells.toArray] w fun e w' => e = .returned (.bool true) ∧ Below w.heap.size w w' := by
 obtain ⟨X, hX⟩ : ∃ X, w.heap.size = X := ⟨_, rfl⟩
 obtain ⟨w1, hw1⟩ : ∃ w1, w.alloc (prObj p) = w1 := ⟨_, rfl⟩
 obtain ⟨w2, hw2⟩ : ∃ w2, w1.alloc (fuObj f) = w2 := ⟨_, rfl⟩
 have hb1 : Below w.heap.size w w1 := by rw [← hw1]; exact (Below.refl _ _).alloc (Nat.le_refl _) _
 have hb2 : Below w1.heap.size w1 w2 := by rw [← hw2]; exact (Below.refl _ _).alloc (Nat.le_refl _) _
 have s1 : w1.heap.size = X + 1 := by rw [← hw1, World.size_alloc, hX]
 have hbw : Below w.heap.size w w2 := hb1.trans (hb2.mono hb1.size)
 have x1 : w2.heap[X]? = some (prObj p) := (hb2.block X (by omega)).trans (by rw [← hw1, ← hX]; exact heap_alloc_new w _)
 have x2 : w2.heap[X + 1]? = some (fuObj f) := by rw [← hw2, ← s1]; exact heap_alloc_new w1 _
 have HX : Hid (∀ W, Below w2.heap.size w2 W → W.heap[X]? = some (prObj p) ∧ W.heap[X + 1]? = some (fuObj f)) := Lib.hid fun W hb => ⟨(hb.block X (blk_lt x1)).trans x1, (hb.block (X + 1) (blk_lt x2)).trans x2⟩
 have HSk : Hid (∀ W, Below w2.heap.size w2 W → PfS X (X + 1) p f W) := Lib.hid fun W hb => PfS.of (HX.out W hb)
 have HBw : Hid (∀ W, Below w2.heap.size w2 W → Below w.heap.size w W) := Lib.hid fun W hb => hbw.trans (hb.mono hbw.size)
 have HG : Hid (∀ W, Below w2.heap.size w2 W → EfGl W.heap.size W ∧ Globs W) := Lib.hid fun W hb => ⟨G.ef.below (HBw.out _ hb), G.gg.below (HBw.out _ hb)⟩
 have HI : Hid (∀ W, Below w2.heap.size w2 W → PrIn W W.heap.size p) := Lib.hid fun W hb => hI.keep (HBw.out _ hb) (HBw.out _ hb).size
 have HFu : Hid (∀ W, Below w2.heap.size w2 W → FuIn W W.heap.size f) := Lib.hid fun W hb => hf.keep (HBw.out _ hb) (HBw.out _ hb).size
 have HN := Lib.hid (And.intro hX (And.intro hw1 hw2))
 obtain ⟨sp, hsp⟩ : ∃ sp, prSizeS p = sp := ⟨_, rfl⟩
 obtain ⟨sf, hsf⟩ : ∃ sf, prSizeS (fuPr 0 f) = sf := ⟨_, rfl⟩
 have HSf : Hid (∀ Z, prSizeS (fuPr Z f) = sf) := Lib.hid fun Z => by rw [← hsf]; rfl
 have HSp := Lib.hid hsp
 have HRg : Hid (0 ≤ sp ∧ sp ≤ 262145 ∧ 0 ≤ sf ∧ sf ≤ 262145) := Lib.hid (by
  have h1 := prSize_range p
  have h2 := prSize_range (fuPr 0 f)
  rw [hsp] at h1
  rw [hsf] at h2
  exact ⟨h1.1, h1.2, h2.1, h2.2⟩)
 have HBw2 : Hid (Below w2.heap.size w2 w2) := Lib.hid (Below.refl _ _)
 dsimp only [Pr.cells, Fu.cells]
 clear hX hw1 hw2 hb1 hb2 s1 hbw x1 x2 hI hf G hsp hsf
 go_enter Tryz.func6, Tryz.ntmps6
 go_upto_region 1 with fail
 simp only [HN.out.1, HN.out.2.1, HN.out.2.2]
 go_cut [19] from 12 (fun s19 wx => s19 = .bool (decide (262144 < sp + sf)) ∧ Hid (Below w2.heap.size w2 wx))
 case first =>
  have HS : Hid (PfS X (X + 1) p f w2.drew) := Lib.hid (HSk.out _ (Below.refl _ _).drew)
  have HBv0 : Hid (Below w2.heap.size w2 w2.drew) := Lib.hid (Below.refl _ _).drew
  go_wp2_with fail
  refine wp_region_L (l := 7) (S := (PfS X (X + 1) p f)) (by kernel_rfl) ?_ (fun hHeld => ?_)
  ·((try dsimp only); (exact HS.out))
  refine wpAnyL_take (i := 0) (oi := _) (v := ?v10) rfl (by kernel_rfl) (fun _ _ _ h => h) (by assumption) (Or.inl ⟨by kernel_rfl, ?y10⟩) ?r10
  case y10 => (intro w hSw; (try dsimp only at hSw); go_simp; all_goals with_reducible rfl)
  try simp only [sl1, sl2, sl3, Act.put, sl4, sl5, sl6]
  refine wpAnyL_take (i := 2) (oi := _) (v := ?v11) rfl (by kernel_rfl) (fun _ _ _ h => h) (by assumption) (Or.inl ⟨by kernel_rfl, ?y11⟩) ?r11
  case y11 => (intro w hSw; (try dsimp only at hSw); go_simp; all_goals with_reducible rfl)
  try simp only [sl1, sl2, sl3, Act.put, sl4, sl5, sl6]
  clear HS
  obtain ⟨v0, hv0⟩ : ∃ v0, w2.drew = v0 := ⟨_, rfl⟩
  rw [hv0] at HBv0 ⊢
  clear hv0
  refine wpAnyL_two (j1 := 1) (j2 := 3) (o1 := _) (o2 := _) (by kernel_rfl) rfl rfl (fun K hK => ?_) (fun K hK => ?_)
  ·
   go_simp
   go_at_call 8
   refine (prsize_any p v0 (HI.out _ HBv0.out)).mono ?_
   rintro e v1 ⟨rfl, hb⟩
   have HBv1 : Hid (Below w2.heap.size w2 v1) := Lib.hid (HBv0.out.trans (hb.mono HBv0.out.size))
   rw [HSp.out]
   clear hb
   refine hK _ _ ?_ (fun hHeld => ?_)
   ·exact HSk.out _ HBv1.out
   clear hK K
   try simp only [sl1, sl2, sl3, Act.put, sl4, sl5, sl6]
   refine wpAnyL_step (j := 3) (o := _) (by kernel_rfl) rfl (fun K hK => ?_)
   go_simp
   obtain ⟨Z, hZ⟩ : ∃ Z, v1.heap.size = Z := ⟨_, rfl⟩
   obtain ⟨v2, hu⟩ : ∃ u, v1.alloc (fuObj f) = u := ⟨_, rfl⟩
   have hb : Below v1.heap.size v1 v2 := by rw [← hu]; exact (Below.refl _ _).alloc (Nat.le_refl _) _
   have xZ : v2.heap[Z]? = some (fuObj f) := by rw [← hu, ← hZ]; exact heap_alloc_new _ _
   have HBv2 : Hid (Below w2.heap.size w2 v2) := Lib.hid (HBv1.out.trans (hb.mono HBv1.out.size))
   have HZ : Hid (∀ W, Below v2.heap.size v2 W → W.heap[Z]? = some (fuObj f)) := Lib.hid fun W hb => (hb.block Z (blk_lt xZ)).trans xZ
   rw [hZ, hu]
   clear hZ hu xZ
   clear hb
   refine hK _ _ ?_ (fun hHeld => ?_)
   ·exact HSk.out _ HBv2.out
   clear hK K
   try simp only [sl1, sl2, sl3, Act.put, sl4, sl5, sl6]
   refine wpAnyL_step (j := 4) (o := _) (by kernel_rfl) rfl (fun K hK => ?_)
   go_simp
   refine hK _ _ ?_ (fun hHeld => ?_)
   ·exact HSk.out _ HBv2.out
   clear hK K
   try simp only [sl1, sl2, sl3, Act.put, sl4, sl5, sl6]
   refine wpAnyL_step (j := 5) (o := _) (by kernel_rfl) rfl (fun K hK => ?_)
   go_simp
   go_at_call 8
   have hzz := HZ.out v2 (Below.refl _ _)
   refine (prsize_any (fuPr Z f) v2 (fuPr_in hzz (HFu.out _ HBv2.out) (blk_lt hzz))).mono ?_
   rintro e vA ⟨rfl, hb⟩
   have HBvA : Hid (Below w2.heap.size w2 vA) := Lib.hid (HBv2.out.trans (hb.mono HBv2.out.size))
   rw [show prSizeS (fuPr Z f) = sf from HSf.out Z]
   clear hb hzz
   refine hK _ _ ?_ (fun hHeld => ?_)
   ·exact HSk.out _ HBvA.out
   clear hK K
   try simp only [sl1, sl2, sl3, Act.put, sl4, sl5, sl6]
   refine wpAnyL_step (j := 6) (o := _) (by kernel_rfl) rfl (fun K hK => ?_)
   go_simp
   obtain ⟨N, hN⟩ : ∃ N, vA.heap.size = N := ⟨_, rfl⟩
   obtain ⟨vB, hu⟩ : ∃ u, vA.alloc (.cells #[.int .i64 sp, .int .i64 sf] 3 (0, 0)) = u := ⟨_, rfl⟩
   have hb : Below vA.heap.size vA vB := by rw [← hu]; exact (Below.refl _ _).alloc (Nat.le_refl _) _
   have xN : vB.heap[N]? = some (.cells #[.int .i64 sp, .int .i64 sf] 3 (0, 0)) := by rw [← hu, ← hN]; exact heap_alloc_new _ _
   have HBvB : Hid (Below w2.heap.size w2 vB) := Lib.hid (HBvA.out.trans (hb.mono HBvA.out.size))
   have CB := Lib.hid (beyond2_any N 2 sp sf HRg.out.1 HRg.out.2.1 HRg.out.2.2.1 HRg.out.2.2.2 vB (cell_at xN 0) (cell_at xN 1))
   rw [hN, hu]
   clear hN hu xN hb
   refine hK _ _ ?_ (fun hHeld => ?_)
   ·exact HSk.out _ HBvB.out
   clear hK K
   try simp only [sl1, sl2, sl3, Act.put, sl4, sl5, sl6]
   refine wpAnyL_last (j := 7) (o := _) (by kernel_rfl) rfl (by rfl) (by kernel_rfl) (fun K hK => ?_)
   go_simp
   go_at_call 7
   refine CB.out.mono ?_
   rintro e vC ⟨rfl, rfl⟩
   (refine hK _ _ ?_; clear hK K)
   try simp only [sl1, sl2, sl3, Act.put, sl4, sl5, sl6]
   go_wp2_with fail
   go_meet
   exact ⟨rfl, HBvB⟩
  ·
   go_simp
   obtain ⟨Z, hZ⟩ : ∃ Z, v0.heap.size = Z := ⟨_, rfl⟩
   obtain ⟨v1, hu⟩ : ∃ u, v0.alloc (fuObj f) = u := ⟨_, rfl⟩
   have hb : Below v0.heap.size v0 v1 := by rw [← hu]; exact (Below.refl _ _).alloc (Nat.le_refl _) _
   have xZ : v1.heap[Z]? = some (fuObj f) := by rw [← hu, ← hZ]; exact heap_alloc_new _ _
   have HBv1 : Hid (Below w2.heap.size w2 v1) := Lib.hid (HBv0.out.trans (hb.mono HBv0.out.size))
   have HZ : Hid (∀ W, Below v1.heap.size v1 W → W.heap[Z]? = some (fuObj f)) := Lib.hid fun W hb => (hb.block Z (blk_lt xZ)).trans xZ
   rw [hZ, hu]
   clear hZ hu xZ
   clear hb
   refine hK _ _ ?_ (fun hHeld => ?_)
   ·exact HSk.out _ HBv1.out
   clear hK K
   try simp only [sl1, sl2, sl3, Act.put, sl4, sl5, sl6]
   refine wpAnyL_two (j1 := 1) (j2 := 4) (o1 := _) (o2 := _) (by kernel_rfl) rfl rfl (fun K hK => ?_) (fun K hK => ?_)
   ·
    go_simp
    go_at_call 8
    refine (prsize_any p v1 (HI.out _ HBv1.out)).mono ?_
    rintro e v2 ⟨rfl, hb⟩
    have HBv2 : Hid (Below w2.heap.size w2 v2) := Lib.hid (HBv1.out.trans (hb.mono HBv1.out.size))
    rw [HSp.out]
    have HZ' : Hid (∀ W, Below v2.heap.size v2 W → W.heap[Z]? = some (fuObj f)) := Lib.hid fun W hb2 => HZ.out _ (hb.trans (hb2.mono hb.size))
    clear HZ
    have HZ := HZ'
    clear HZ'
    clear hb
    refine hK _ _ ?_ (fun hHeld => ?_)
    ·exact HSk.out _ HBv2.out
    clear hK K
    try simp only [sl1, sl2, sl3, Act.put, sl4, sl5, sl6]
    refine wpAnyL_step (j := 4) (o := _) (by kernel_rfl) rfl (fun K hK => ?_)
    go_simp
    refine hK _ _ ?_ (fun hHeld => ?_)
    ·exact HSk.out _ HBv2.out
    clear hK K
    try simp only [sl1, sl2, sl3, Act.put, sl4, sl5, sl6]
    refine wpAnyL_step (j := 5) (o := _) (by kernel_rfl) rfl (fun K hK => ?_)
    go_simp
    go_at_call 8
    have hzz := HZ.out v2 (Below.refl _ _)
    refine (prsize_any (fuPr Z f) v2 (fuPr_in hzz (HFu.out _ HBv2.out) (blk_lt hzz))).mono ?_
    rintro e vA ⟨rfl, hb⟩
    have HBvA : Hid (Below w2.heap.size w2 vA) := Lib.hid (HBv2.out.trans (hb.mono HBv2.out.size))
    rw [show prSizeS (fuPr Z f) = sf from HSf.out Z]
    clear hb hzz
    refine hK _ _ ?_ (fun hHeld => ?_)
    ·exact HSk.out _ HBvA.out
    clear hK K
    try simp only [sl1, sl2, sl3, Act.put, sl4, sl5, sl6]
    refine wpAnyL_step (j := 6) (o := _) (by kernel_rfl) rfl (fun K hK => ?_)
    go_simp
    obtain ⟨N, hN⟩ : ∃ N, vA.heap.size = N := ⟨_, rfl⟩
    obtain ⟨vB, hu⟩ : ∃ u, vA.alloc (.cells #[.int .i64 sp, .int .i64 sf] 3 (0, 0)) = u := ⟨_, rfl⟩
    have hb : Below vA.heap.size vA vB := by rw [← hu]; exact (Below.refl _ _).alloc (Nat.le_refl _) _
    have xN : vB.heap[N]? = some (.cells #[.int .i64 sp, .int .i64 sf] 3 (0, 0)) := by rw [← hu, ← hN]; exact heap_alloc_new _ _
    have HBvB : Hid (Below w2.heap.size w2 vB) := Lib.hid (HBvA.out.trans (hb.mono HBvA.out.size))
    have CB := Lib.hid (beyond2_any N 2 sp sf HRg.out.1 HRg.out.2.1 HRg.out.2.2.1 HRg.out.2.2.2 vB (cell_at xN 0) (cell_at xN 1))
    rw [hN, hu]
    clear hN hu xN hb
    refine hK _ _ ?_ (fun hHeld => ?_)
    ·exact HSk.out _ HBvB.out
    clear hK K
    try simp only [sl1, sl2, sl3, Act.put, sl4, sl5, sl6]
    refine wpAnyL_last (j := 7) (o := _) (by kernel_rfl) rfl (by rfl) (by kernel_rfl) (fun K hK => ?_)
    go_simp
    go_at_call 7
    refine CB.out.mono ?_
    rintro e vC ⟨rfl, rfl⟩
    (refine hK _ _ ?_; clear hK K)
    try simp only [sl1, sl2, sl3, Act.put, sl4, sl5, sl6]
    go_wp2_with fail
    go_meet
    exact ⟨rfl, HBvB⟩
   ·
    go_simp
    refine hK _ _ ?_ (fun hHeld => ?_)
    ·exact HSk.out _ HBv1.out
    clear hK K
    try simp only [sl1, sl2, sl3, Act.put, sl4, sl5, sl6]
    refine wpAnyL_step (j := 1) (o := _) (by kernel_rfl) rfl (fun K hK => ?_)
    go_simp
    go_at_call 8
    refine (prsize_any p v1 (HI.out _ HBv1.out)).mono ?_
    rintro e v2 ⟨rfl, hb⟩
    have HBv2 : Hid (Below w2.heap.size w2 v2) := Lib.hid (HBv1.out.trans (hb.mono HBv1.out.size))
    rw [HSp.out]
    have HZ' : Hid (∀ W, Below v2.heap.size v2 W → W.heap[Z]? = some (fuObj f)) := Lib.hid fun W hb2 => HZ.out _ (hb.trans (hb2.mono hb.size))
    clear HZ
    have HZ := HZ'
    clear HZ'
    clear hb
    refine hK _ _ ?_ (fun hHeld => ?_)
    ·exact HSk.out _ HBv2.out
    clear hK K
    try simp only [sl1, sl2, sl3, Act.put, sl4, sl5, sl6]
    refine wpAnyL_step (j := 5) (o := _) (by kernel_rfl) rfl (fun K hK => ?_)
    go_simp
    go_at_call 8
    have hzz := HZ.out v2 (Below.refl _ _)
    refine (prsize_any (fuPr Z f) v2 (fuPr_in hzz (HFu.out _ HBv2.out) (blk_lt hzz))).mono ?_
    rintro e vA ⟨rfl, hb⟩
    have HBvA : Hid (Below w2.heap.size w2 vA) := Lib.hid (HBv2.out.trans (hb.mono HBv2.out.size))
    rw [show prSizeS (fuPr Z f) = sf from HSf.out Z]
    clear hb hzz
    refine hK _ _ ?_ (fun hHeld => ?_)
    ·exact HSk.out _ HBvA.out
    clear hK K
    try simp only [sl1, sl2, sl3, Act.put, sl4, sl5, sl6]
    refine wpAnyL_step (j := 6) (o := _) (by kernel_rfl) rfl (fun K hK => ?_)
    go_simp
    obtain ⟨N, hN⟩ : ∃ N, vA.heap.size = N := ⟨_, rfl⟩
    obtain ⟨vB, hu⟩ : ∃ u, vA.alloc (.cells #[.int .i64 sp, .int .i64 sf] 3 (0, 0)) = u := ⟨_, rfl⟩
    have hb : Below vA.heap.size vA vB := by rw [← hu]; exact (Below.refl _ _).alloc (Nat.le_refl _) _
    have xN : vB.heap[N]? = some (.cells #[.int .i64 sp, .int .i64 sf] 3 (0, 0)) := by rw [← hu, ← hN]; exact heap_alloc_new _ _
    have HBvB : Hid (Below w2.heap.size w2 vB) := Lib.hid (HBvA.out.trans (hb.mono HBvA.out.size))
    have CB := Lib.hid (beyond2_any N 2 sp sf HRg.out.1 HRg.out.2.1 HRg.out.2.2.1 HRg.out.2.2.2 vB (cell_at xN 0) (cell_at xN 1))
    rw [hN, hu]
    clear hN hu xN hb
    refine hK _ _ ?_ (fun hHeld => ?_)
    ·exact HSk.out _ HBvB.out
    clear hK K
    try simp only [sl1, sl2, sl3, Act.put, sl4, sl5, sl6]
    refine wpAnyL_last (j := 7) (o := _) (by kernel_rfl) rfl (by rfl) (by kernel_rfl) (fun K hK => ?_)
    go_simp
    go_at_call 7
    refine CB.out.mono ?_
    rintro e vC ⟨rfl, rfl⟩
    (refine hK _ _ ?_; clear hK K)
    try simp only [sl1, sl2, sl3, Act.put, sl4, sl5, sl6]
    go_wp2_with fail
    go_meet
    exact ⟨rfl, HBvB⟩
 case rest =>
  obtain ⟨rfl, HBwc⟩ := hcut
  by_cases hbig : 262144 < sp + sf
  ·have HZ : Hid (Below w.heap.size w wc) := Lib.hid (HBw.out _ HBwc.out)
   rw [show decide (262144 < sp + sf) = true by simpa using hbig]
   go_wp2_with fail
   go_ret
   exact ⟨rfl, HZ.out⟩
  rw [show decide (262144 < sp + sf) = false by simpa using hbig]
  have HSm : Hid (PrSmall p) := Lib.hid (prSize_small (by have := HRg.out; have := HSp.out; omega))
  have HSf2 : Hid (f.ps.length ≤ 262144 ∧ stAlls f.body ≤ 262144) := Lib.hid ((prSize_small (p := fuPr 0 f) (by have := HRg.out; have := HSf.out 0; omega)).funs f (by simp))
  have hFl : p.fs.length ≤ 262144 := by have := HSm.out.heads; omega
  have gc := HG.out _ HBwc.out
  have CO := Lib.hid (efOf_any wc.heap.size p wc gc.1.gl gc.1.num (HI.out _ HBwc.out))
  have row := (HX.out _ HBwc.out).1
  have q0 := cell_at row 0
  have q1 := cell_at row 1
  have q2 := cell_at row 2
  have q3 := cell_at row 3
  simp only [sl7, sl8, sl9] at q0 q1 q2 q3
  clear row
  clear gc hbig
  go_wp2_with fail
  refine CO.out.mono ?_
  rintro e w4 ⟨⟨fa, er⟩, hF, hb4, hE⟩
  have HBw4 : Hid (Below w2.heap.size w2 w4) := Lib.hid (HBwc.out.trans (hb4.mono HBwc.out.size))
  have HF := Lib.hid hF
  clear hb4 hF CO q0 q1 q2 q3
  rcases hE with ⟨h0, rfl⟩ | ⟨h0, s, Db, hev, rfl, hd, -⟩
  ·dsimp only at h0
   have e1 : (er != 0) = true := by simpa using h0
   clear h0
   go_wp2_with fail
   refine (alive06_any w4 (HG.out _ HBw4.out).1).mono ?_
   rintro e w99 ⟨rfl, hb⟩
   have HBz := Lib.hid ((HBw.out _ HBw4.out).trans (hb.mono (HBw.out _ HBw4.out).size))
   clear hb
   go_wp2_with fail
   go_ret
   exact ⟨rfl, HBz.out⟩
  dsimp only at h0
  subst h0
  have HEv := Lib.hid hev
  have HEn := Lib.hid (evL_new hev)
  have hdl : s.does.length = p.fs.length := HEn.out.dl
  have HD : Hid (∀ W, Below w4.heap.size w4 W → ∀ (j e : Nat), s.does[j]? = some e → W.cell? ⟨Db, j, none⟩ = some (.int .u8 (e : Int))) := Lib.hid fun W hb j e he => (cell_at ((hb.block Db (blk_lt hd)).trans hd) j).trans (lookV (f := fun e : Nat => Value.int .u8 (e : Int)) he)
  have g4 := HG.out _ HBw4.out
  have CT := Lib.hid (twinPr_any w4.heap.size p w4 (HI.out _ HBw4.out) (Nat.le_refl _) g4.2 HSm.out)
  have CT : Hid (Calls Tryz.prog 9 #[p.val] w4 fun e w' => ∃ q : Pr, e = .returned (.agg q.cells.toArray) ∧ stripP q = stripP p ∧ TnP w' w4.heap.size w'.heap.size q ∧ Below w4.heap.size w4 w') := CT
  have row := (HX.out _ HBw4.out).1
  have q0 := cell_at row 0
  have q1 := cell_at row 1
  have q2 := cell_at row 2
  have q3 := cell_at row 3
  simp only [sl7, sl8, sl9] at q0 q1 q2 q3
  clear row
  clear hev hd g4
  go_wp2_with fail
  clear q0 q1 q2 q3
  refine CT.out.mono ?_
  rintro e w5 ⟨q1, rfl, hst, hTn, hb5⟩
  have hlq : q1.fs.length = p.fs.length := by have := congrArg List.length (strip_parts hst).2.2.1; simpa using this
  obtain ⟨rd1, rs1, sd1, ss1, fd1, fs1, td1, ts1⟩ := q1
  dsimp only at hlq
  obtain ⟨Q, hQ⟩ : ∃ Q, w5.heap.size = Q := ⟨_, rfl⟩
  obtain ⟨w6, hw6⟩ : ∃ w6, w5.alloc (.cells #[.slice rd1.a rs1.length rd1.c, .slice sd1.a ss1.length sd1.c, .slice fd1.a fs1.length fd1.c, .slice none 0 0] 27 (0, 0)) = w6 := ⟨_, rfl⟩
  have hb6 : Below w5.heap.size w5 w6 := by rw [← hw6]; exact (Below.refl _ _).alloc (Nat.le_refl _) _
  have x6 : w6.heap[Q]? = some (.cells #[.slice rd1.a rs1.length rd1.c, .slice sd1.a ss1.length sd1.c, .slice fd1.a fs1.length fd1.c, .slice none 0 0] 27 (0, 0)) := by rw [← hw6, ← hQ]; exact heap_alloc_new w5 _
  have HB46 : Hid (Below w4.heap.size w4 w6) := Lib.hid (hb5.trans (hb6.mono hb5.size))
  have HBw6 : Hid (Below w2.heap.size w2 w6) := Lib.hid (HBw4.out.trans (HB46.out.mono HBw4.out.size))
  have HQ6 : Hid (∀ W, Below w6.heap.size w6 W → W.heap[Q]? = some (.cells #[.slice rd1.a rs1.length rd1.c, .slice sd1.a ss1.length sd1.c, .slice fd1.a fs1.length fd1.c, .slice none 0 0] 27 (0, 0))) := Lib.hid fun W hb => (hb.block Q (blk_lt x6)).trans x6
  have HQl : Hid (w4.heap.size ≤ Q ∧ w2.heap.size ≤ Q) := Lib.hid (by have := hb5.size; have := HBw4.out.size; omega)
  have g6 := HG.out _ HBw6.out
  have CO := Lib.hid (efOf_any w6.heap.size (noTh ⟨rd1, rs1, sd1, ss1, fd1, fs1, td1, ts1⟩) w6 g6.1.gl g6.1.num (hTn.inn.noth.keep hb6 hb6.size))
  have HSim := Lib.hid (sim_noth hst)
  have HTy : Hid ((typesCheck (noTh ⟨rd1, rs1, sd1, ss1, fd1, fs1, td1, ts1⟩)).2 = 0) := Lib.hid (types_noth hst (HF.out.fit rfl))
  have HNq := Lib.hid (And.intro hQ hw6)
  have Hlq := Lib.hid hlq
  clear hst hTn hb5 hb6 x6 g6 CT hQ hw6 hlq
  dsimp only [Pr.cells]
  go_wp2_with fail
  simp only [HNq.out.1, HNq.out.2]
  refine CO.out.mono ?_
  rintro e w7 ⟨F1, hF1, hb7, hE⟩
  have hz1 : F1.2 = 0 := efC_noth HSim.out rfl HTy.out HF.out hF1
  rcases hE with ⟨h0, -⟩ | ⟨-, s1, Db1, hev1, he, hd1, -⟩
  ·exact absurd hz1 h0
  obtain rfl : s1 = s := hev1.det (efl_same HSim.out.sup HSim.out.len HEv.out)
  rw [show (noTh ⟨rd1, rs1, sd1, ss1, fd1, fs1, td1, ts1⟩ : Pr).fs.length = p.fs.length from Hlq.out] at he
  subst he
  have HB67 : Hid (Below w6.heap.size w6 w7) := Lib.hid hb7
  have HBw7 : Hid (Below w2.heap.size w2 w7) := Lib.hid (HBw6.out.trans (hb7.mono HBw6.out.size))
  have HB47 : Hid (Below w4.heap.size w4 w7) := Lib.hid (HB46.out.trans (hb7.mono HB46.out.size))
  have CS : Hid (Calls Tryz.prog 29 #[.slice (some ⟨Db, 0, none⟩) p.fs.length p.fs.length, .slice (some ⟨Db1, 0, none⟩) p.fs.length p.fs.length] w7 fun e w' => e = .returned (.bool true) ∧ Below w7.heap.size w7 w') := Lib.hid (by
   have h := same06_any s1.does Db Db1 p.fs.length p.fs.length w7 (HD.out _ HB47.out) (fun j e he => (cell_at hd1 j).trans (lookV (f := fun e : Nat => Value.int .u8 (e : Int)) he)) (by rw [hdl]; omega)
   rwa [hdl] at h)
  clear hF1 hb7 hev1 hd1 hz1 CO HSim HTy
  go_wp2_with fail
  refine CS.out.mono ?_
  rintro e w8 ⟨rfl, hb8⟩
  have HBw8 : Hid (Below w2.heap.size w2 w8) := Lib.hid (HBw7.out.trans (hb8.mono HBw7.out.size))
  have HB48 : Hid (Below w4.heap.size w4 w8) := Lib.hid (HB47.out.trans (hb8.mono HB47.out.size))
  have HB68 : Hid (Below w6.heap.size w6 w8) := Lib.hid (HB67.out.trans (hb8.mono HB67.out.size))
  have g8 := HG.out _ HBw8.out
  have CT := Lib.hid (twinPr_any w8.heap.size p w8 (HI.out _ HBw8.out) (Nat.le_refl _) g8.2 HSm.out)
  have CT : Hid (Calls Tryz.prog 9 #[p.val] w8 fun e w' => ∃ q : Pr, e = .returned (.agg q.cells.toArray) ∧ stripP q = stripP p ∧ TnP w' w8.heap.size w'.heap.size q ∧ Below w8.heap.size w8 w') := CT
  have row := (HX.out _ HBw8.out).1
  have q0 := cell_at row 0
  have q1 := cell_at row 1
  have q2 := cell_at row 2
  have q3 := cell_at row 3
  simp only [sl7, sl8, sl9] at q0 q1 q2 q3
  clear row
  clear hb8 g8 CS
  go_wp2_with fail
  clear q0 q1 q2 q3
  refine CT.out.mono ?_
  rintro e w9 ⟨q2, rfl, hst, hTn, hb9⟩
  have hlq2 : q2.fs.length = p.fs.length := by have := congrArg List.length (strip_parts hst).2.2.1; simpa using this
  have HB69 : Hid (Below w6.heap.size w6 w9) := Lib.hid (HB68.out.trans (hb9.mono HB68.out.size))
  have hq9 := HQ6.out _ HB69.out
  have c0 := cell_at hq9 0
  have c1 := cell_at hq9 1
  have c2 := cell_at hq9 2
  have c3 := cell_at hq9 3
  have f0 := frz_at hq9 0
  have f1 := frz_at hq9 1
  have f2 := frz_at hq9 2
  have f3 := frz_at hq9 3
  simp only [sl7, sl8, sl9] at c0 c1 c2 c3
  obtain ⟨b2, hfa, hgb, hbB, hfc, -⟩ := hTn.fs.row
  obtain ⟨rd2, rs2, sd2, ss2, ⟨fa2, fc2⟩, fs2, td2, ts2⟩ := q2
  dsimp only at hfa hfc hlq2
  subst hfa hfc
  have h4Q := HQl.out
  have h6w := HB68.out.size
  have hQ8 : Q < w8.heap.size := Nat.lt_of_lt_of_le (blk_lt (HQ6.out _ (Below.refl _ _))) h6w
  obtain ⟨w10, hw10⟩ : ∃ W, ((((w9.setCell ⟨Q, 0, none⟩ (.slice rd2.a rs2.length rd2.c)).setCell ⟨Q, 1, none⟩ (.slice sd2.a ss2.length sd2.c)).setCell ⟨Q, 2, none⟩ (.slice (some ⟨b2, 0, none⟩) p.fs.length (p.fs.length + 2))).setCell ⟨Q, 3, none⟩ (.slice td2.a ts2.length td2.c)) = W := ⟨_, rfl⟩
  have kq : Kept (· = Q) w9 w10 := by rw [← hw10]; exact set4_kept _ _ _ _ _ _
  have x10 : w10.heap[Q]? = some (.cells #[.slice rd2.a rs2.length rd2.c, .slice sd2.a ss2.length sd2.c, .slice (some ⟨b2, 0, none⟩) p.fs.length (p.fs.length + 2), .slice td2.a ts2.length td2.c] 27 (0, 0)) := by
   rw [← hw10]; exact set4_row hq9 _ _ _ _
  have HBw9 : Hid (Below w2.heap.size w2 w9) := Lib.hid (HBw8.out.trans (hb9.mono HBw8.out.size))
  have hk9 : Below Q w9 w10 := kq.below (by have := hb9.size; omega) (fun k hk => by rw [hk]; exact Nat.le_refl _)
  have HBw10 : Hid (Below w2.heap.size w2 w10) := Lib.hid (HBw9.out.trans (hk9.mono h4Q.2))
  have HB410 : Hid (Below w4.heap.size w4 w10) := Lib.hid ((HB48.out.trans (hb9.mono HB48.out.size)).trans (hk9.mono h4Q.1))
  have HT10 : Hid (TnP w10 w8.heap.size w10.heap.size ⟨rd2, rs2, sd2, ss2, ⟨some ⟨b2, 0, none⟩, fs2.length + 2⟩, fs2, td2, ts2⟩) := Lib.hid (hTn.keep (fun b h1 h2 => kq.block b h2 (by rintro rfl; omega)) (Nat.le_refl _) kq.size)
  have Hb2 : Hid (w8.heap.size ≤ b2 ∧ b2 < w10.heap.size ∧ Q < w8.heap.size) := Lib.hid ⟨hgb, by have := kq.size; omega, hQ8⟩
  have HS : Hid (MfS Q b2 p.fs.length X p f w10.drew) := Lib.hid ⟨cell_at x10 2, HSk.out _ HBw10.out.drew⟩
  have Hw10 := Lib.hid hw10
  have HSt := Lib.hid hst
  have Hx10 := Lib.hid x10
  have Hlq2 := Lib.hid hlq2
  clear CT hTn hst kq x10 hk9 hw10 hq9 hb9 h4Q h6w hQ8 hgb hbB
  dsimp only [Pr.cells]
  go_wp2_with fail
  simp only [Hw10.out]
  clear c0 c1 c2 c3 f0 f1 f2 f3 hlq2
  have HBv0 : Hid (Below w10.heap.size w10 w10.drew) := Lib.hid (Below.refl _ _).drew
  refine wp_region_L (l := 7) (S := (MfS Q b2 p.fs.length X p f)) (by kernel_rfl) ?_ (fun hHeld => ?_)
  ·((try dsimp only); (exact HS.out))
  refine wpAnyL_take (i := 0) (oi := _) (v := ?v12) rfl (by kernel_rfl) (fun _ _ _ h => h) (by assumption) (Or.inl ⟨by kernel_rfl, ?y12⟩) ?r12
  case y12 => (intro w hSw; (try dsimp only at hSw); go_simp; all_goals with_reducible rfl)
  try simp only [sl1, sl2, sl3, Act.put, sl4, sl5, sl6]
  refine wpAnyL_take (i := 1) (oi := _) (v := ?v13) rfl (by kernel_rfl) (fun _ _ _ h => h) (by assumption) (Or.inl ⟨by kernel_rfl, ?y13⟩) ?r13
  case y13 => (intro w hSw; (try dsimp only at hSw); go_simp; all_goals with_reducible rfl)
  try simp only [sl1, sl2, sl3, Act.put, sl4, sl5, sl6]
  refine wpAnyL_take (i := 2) (oi := _) (v := ?v14) rfl (by kernel_rfl) (fun _ _ _ h => h) (by assumption) (Or.inl ⟨by kernel_rfl, ?y14⟩) ?r14
  case y14 => (intro w hSw; (try dsimp only at hSw); go_simp; all_goals with_reducible rfl)
  try simp only [sl1, sl2, sl3, Act.put, sl4, sl5, sl6]
  clear HS
  obtain ⟨v0, hv0⟩ : ∃ v0, w10.drew = v0 := ⟨_, rfl⟩
  rw [hv0] at HBv0 ⊢
  clear hv0
  have HBc : Hid (∀ W, Below w10.heap.size w10 W → Below w2.heap.size w2 W) := Lib.hid fun W hb => HBw10.out.trans (hb.mono HBw10.out.size)
  refine wpAnyL_step (j := 3) (o := _) (by kernel_rfl) rfl (fun K hK => ?_)
  go_simp
  go_at_call 31
  refine (twinU_any v0.heap.size f HSf2.out.1 HSf2.out.2 v0 (HFu.out _ (HBc.out _ HBv0.out)) (Nat.le_refl _) (HG.out _ (HBc.out _ HBv0.out)).2).mono ?_
  rintro e w11 ⟨fn, rfl, hsf, hTf, hb11⟩
  have HB11 : Hid (Below w10.heap.size w10 w11) := Lib.hid (HBv0.out.trans (hb11.mono HBv0.out.size))
  have HTf : Hid (TnU w11 w10.heap.size w11.heap.size fn) := Lib.hid (hTf.keep (fun _ _ _ => rfl) HBv0.out.size (Nat.le_refl _))
  have HSW : Hid (∀ W, Below w10.heap.size w10 W → MfS Q b2 p.fs.length X p f W) := Lib.hid fun W hb => ⟨cell_at ((hb.block Q (blk_lt Hx10.out)).trans Hx10.out) 2, HSk.out _ (HBc.out _ hb)⟩
  clear hsf hTf hb11
  refine hK _ _ ?_ (fun hHeld => ?_)
  ·exact HSW.out _ HB11.out
  clear hK K
  try simp only [sl1, sl2, sl3, Act.put, sl4, sl5, sl6]
  dsimp only [Fu.cells]
  refine wpAnyL_step (j := 4) (o := _) (by kernel_rfl) rfl (fun K hK => ?_)
  go_simp
  obtain ⟨N, hN⟩ : ∃ N, w11.heap.size = N := ⟨_, rfl⟩
  obtain ⟨w12, hu⟩ : ∃ u, w11.alloc (fuObj fn) = u := ⟨_, rfl⟩
  have hb12 : Below w11.heap.size w11 w12 := by rw [← hu]; exact (Below.refl _ _).alloc (Nat.le_refl _) _
  have x12 : w12.heap[N]? = some (fuObj fn) := by rw [← hu, ← hN]; exact heap_alloc_new _ _
  have HB12 : Hid (Below w10.heap.size w10 w12) := Lib.hid (HB11.out.trans (hb12.mono HB11.out.size))
  rw [hN, hu]
  have hT12 : TnP w12 w8.heap.size w12.heap.size ⟨rd2, rs2, sd2, ss2, ⟨some ⟨b2, 0, none⟩, fs2.length + 2⟩, fs2, td2, ts2⟩ := HT10.out.keep (fun b _ h2 => HB12.out.block b h2) (Nat.le_refl _) HB12.out.size
  obtain ⟨w13, hr, hat, hg⟩ := append_func (ty := 24) (f := fn) hT12.fs rfl (N := N) (fun j v hv => by rw [addr_add, Nat.zero_add, cell_at x12 j, ← hv]; exact sl7 ..)
  have h12b : b2 < w12.heap.size := Nat.lt_of_lt_of_le Hb2.out.2.1 HB12.out.size
  have hkQ : ∀ b : Nat, b < w12.heap.size → b ≠ b2 → w13.heap[b]? = w12.heap[b]? := fun b h1 h2 => hg.block b h1 (fun e => h2 (by injection e))
  have x13 : w13.heap[Q]? = some (.cells #[.slice rd2.a rs2.length rd2.c, .slice sd2.a ss2.length sd2.c, .slice (some ⟨b2, 0, none⟩) p.fs.length (p.fs.length + 2), .slice td2.a ts2.length td2.c] 27 (0, 0)) :=
   (hkQ Q (by have := Hb2.out; omega) (by have := Hb2.out; omega)).trans ((HB12.out.block Q (blk_lt Hx10.out)).trans Hx10.out)
  rw [show (⟨rd2, rs2, sd2, ss2, ⟨some ⟨b2, 0, none⟩, fs2.length + 2⟩, fs2, td2, ts2⟩ : Pr).fs.length = p.fs.length from Hlq2.out] at hr
  have HB13 : Hid (Below w2.heap.size w2 w13) := Lib.hid ((HBc.out _ HB12.out).grown hg (HBc.out _ HB12.out).size (fun k hk => by
   obtain rfl : b2 = k := by injection hk
   have := Hb2.out; have := HBw8.out.size; omega))
  have HB413 : Hid (Below w4.heap.size w4 w13) := Lib.hid ((HB410.out.trans (HB12.out.mono HB410.out.size)).grown hg (by have := HB410.out.size; have := HB12.out.size; omega) (fun k hk => by
   obtain rfl : b2 = k := by injection hk
   have := Hb2.out; have := HB48.out.size; omega))
  have HS13 : Hid (MfS Q b2 p.fs.length X p f w13) := Lib.hid ⟨cell_at x13 2, HSk.out _ HB13.out⟩
  obtain ⟨w14, hw14⟩ : ∃ W, w13.setCell ⟨Q, 2, none⟩ (.slice (some ⟨b2, 0, none⟩) (p.fs.length + 1) (p.fs.length + 2)) = W := ⟨_, rfl⟩
  have x14 : w14.heap[Q]? = some (.cells #[.slice rd2.a rs2.length rd2.c, .slice sd2.a ss2.length sd2.c, .slice (some ⟨b2, 0, none⟩) (p.fs.length + 1) (p.fs.length + 2), .slice td2.a ts2.length td2.c] 27 (0, 0)) := by
   have h := row_set x13 2 (.slice (some ⟨b2, 0, none⟩) (p.fs.length + 1) (p.fs.length + 2))
   rw [← hw14]
   simpa only [sl4, sl5, sl6] using h
  have hk14 : ∀ b : Nat, b ≠ Q → w14.heap[b]? = w13.heap[b]? := fun b h => by rw [← hw14]; exact Below.heap_setCell _ _ _ _ h
  have s14 : w14.heap.size = w13.heap.size := by rw [← hw14]; simp [World.setCell]
  have HB14 : Hid (Below w2.heap.size w2 w14) := Lib.hid (by rw [← hw14]; exact HB13.out.setCell HQl.out.2 _)
  have HB414 : Hid (Below w4.heap.size w4 w14) := Lib.hid (by rw [← hw14]; exact HB413.out.setCell HQl.out.1 _)
  have hI14 : PrIn w14 w14.heap.size (plusF ⟨rd2, rs2, sd2, ss2, ⟨some ⟨b2, 0, none⟩, fs2.length + 2⟩, fs2, td2, ts2⟩ ⟨some ⟨b2, 0, none⟩, p.fs.length + 2⟩ fn) :=
   more_in (n := 0) (b := b2) hT12 rfl (fun b h1 h2 h3 => (hk14 b (by have := Hb2.out; omega)).trans (hkQ b h3 h1)) (by rw [s14]; exact hg.size) ((HTf.out.keep (w' := w14) (g' := w10.heap.size) (B' := w14.heap.size) (fun b h1 h2 => (hk14 b (by have := blk_lt Hx10.out; omega)).trans ((hkQ b (Nat.lt_of_lt_of_le h2 hb12.size) (by have := Hb2.out; omega)).trans (hb12.block b h2))) (Nat.le_refl _) (by rw [s14]; exact Nat.le_trans hb12.size hg.size)).fuIn) h12b (fun i y hy => (hat i y hy).keep fun o => World.cell?_of_block (w := w13) (hk14 b2 (by have := Hb2.out; omega)))
  have HI14 := Lib.hid hI14
  have Hw14 := Lib.hid hw14
  have Hx14 := Lib.hid x14
  have Hr := Lib.hid hr
  have c2 : w13.cell? ⟨Q, 2, none⟩ = some (.slice (some ⟨b2, 0, none⟩) p.fs.length (p.fs.length + 2)) := cell_at x13 2
  have f2 := frz_at x13 2
  have HS12 : Hid (MfS Q b2 p.fs.length X p f w12) := Lib.hid (HSW.out _ HB12.out)
  clear hN hu hb12 x12 hT12 hr hat hg h12b hkQ x13 hw14 x14 hk14 s14 hI14
  refine hK _ _ ?_ (fun hHeld => ?_)
  ·exact HS12.out
  clear hK K
  try simp only [sl1, sl2, sl3, Act.put, sl4, sl5, sl6]
  refine wpAnyL_step (j := 5) (o := _) (by kernel_rfl) rfl (fun K hK => ?_)
  refine wp_app_run (.tmp 47) (.tmp 50) 24 rfl _ _ rfl rfl (.slice (some ⟨b2, 0, none⟩) (p.fs.length + 1) (p.fs.length + 2)) w13 Hr.out ?_
  refine hK _ _ ?_ (fun hHeld => ?_)
  ·exact HS13.out
  clear hK K
  try simp only [sl1, sl2, sl3, Act.put, sl4, sl5, sl6]
  refine wpAnyL_step (j := 6) (o := _) (by kernel_rfl) rfl (fun K hK => ?_)
  go_simp
  refine hK _ _ ?_ (fun hHeld => ?_)
  ·exact HS13.out
  clear hK K
  try simp only [sl1, sl2, sl3, Act.put, sl4, sl5, sl6]
  refine wpAnyL_last (j := 7) (o := _) (by kernel_rfl) rfl (by rfl) (by kernel_rfl) (fun K hK => ?_)
  go_simp
  (refine hK _ _ ?_; clear hK K)
  try simp only [sl1, sl2, sl3, Act.put, sl4, sl5, sl6]
  rw [Hw14.out]
  have hl3 : (fs2 ++ [fn]).length = p.fs.length + 1 := by rw [List.length_append, Hlq2.out]; rfl
  have hsup : EfSup p (plusF ⟨rd2, rs2, sd2, ss2, ⟨some ⟨b2, 0, none⟩, fs2.length + 2⟩, fs2, td2, ts2⟩ ⟨some ⟨b2, 0, none⟩, p.fs.length + 2⟩ fn) := sup_more HSt.out _ _
  obtain ⟨q3, hq3⟩ : ∃ q3, plusF ⟨rd2, rs2, sd2, ss2, ⟨some ⟨b2, 0, none⟩, fs2.length + 2⟩, fs2, td2, ts2⟩ ⟨some ⟨b2, 0, none⟩, p.fs.length + 2⟩ fn = q3 := ⟨_, rfl⟩
  have hv3 : q3.val = .agg #[.slice rd2.a rs2.length rd2.c, .slice sd2.a ss2.length sd2.c, .slice (some ⟨b2, 0, none⟩) (p.fs.length + 1) (p.fs.length + 2), .slice td2.a ts2.length td2.c] := by
   rw [← hq3]
   show Value.agg #[_, _, .slice (some ⟨b2, 0, none⟩) (fs2 ++ [fn]).length (p.fs.length + 2), _] = _
   rw [hl3]
  have hl4 : q3.fs.length = p.fs.length + 1 := by rw [← hq3]; exact hl3
  rw [hq3] at HI14 hsup
  have HSup := Lib.hid (And.intro hsup hl4)
  have HBq : Hid (∀ W, Below w14.heap.size w14 W → Below w2.heap.size w2 W) := Lib.hid fun W hb => HB14.out.trans (hb.mono HB14.out.size)
  have HIq : Hid (∀ W, Below w14.heap.size w14 W → PrIn W W.heap.size q3) := Lib.hid fun W hb => HI14.out.keep hb hb.size
  have HxW : Hid (∀ W, Below w14.heap.size w14 W → W.heap[Q]? = some (.cells #[.slice rd2.a rs2.length rd2.c, .slice sd2.a ss2.length sd2.c, .slice (some ⟨b2, 0, none⟩) (p.fs.length + 1) (p.fs.length + 2), .slice td2.a ts2.length td2.c] 27 (0, 0))) := Lib.hid fun W hb => (hb.block Q (blk_lt Hx14.out)).trans Hx14.out
  have CT : Hid (∀ W, Below w14.heap.size w14 W → Calls Tryz.prog 10 #[.agg #[.slice rd2.a rs2.length rd2.c, .slice sd2.a ss2.length sd2.c, .slice (some ⟨b2, 0, none⟩) (p.fs.length + 1) (p.fs.length + 2), .slice td2.a ts2.length td2.c]] W fun e w' => e = .returned (.tuple #[.int .i64 (typesCheck q3).1, .int .i64 (typesCheck q3).2]) ∧ Below W.heap.size W w') :=
   Lib.hid fun W hb => by rw [← hv3]; exact typesCheck_any W.heap.size q3 W (HG.out _ (HBq.out _ hb)).1.gl (HG.out _ (HBq.out _ hb)).1.num (HIq.out _ hb)
  have CE : Hid (∀ W, Below w14.heap.size w14 W → Calls Tryz.prog 25 #[.agg #[.slice rd2.a rs2.length rd2.c, .slice sd2.a ss2.length sd2.c, .slice (some ⟨b2, 0, none⟩) (p.fs.length + 1) (p.fs.length + 2), .slice td2.a ts2.length td2.c]] W fun e w' => ∃ F : Int × Int, e = .returned (.tuple #[.int .i64 F.1, .int .i64 F.2]) ∧ EfC q3 F ∧ Below W.heap.size W w') :=
   Lib.hid fun W hb => by rw [← hv3]; exact efCheck_any W.heap.size q3 W (HG.out _ (HBq.out _ hb)).1.gl (HG.out _ (HBq.out _ hb)).1.num (HIq.out _ hb)
  have CO : Hid (∀ W, Below w14.heap.size w14 W → Calls Tryz.prog 26 #[.agg #[.slice rd2.a rs2.length rd2.c, .slice sd2.a ss2.length sd2.c, .slice (some ⟨b2, 0, none⟩) (p.fs.length + 1) (p.fs.length + 2), .slice td2.a ts2.length td2.c]] W fun e w' => ∃ F : Int × Int, EfC q3 F ∧ Below W.heap.size W w' ∧ OfEnds q3 W F e w') :=
   Lib.hid fun W hb => by rw [← hv3]; exact efOf_any W.heap.size q3 W (HG.out _ (HBq.out _ hb)).1.gl (HG.out _ (HBq.out _ hb)).1.num (HIq.out _ hb)
  have HBq14 : Hid (Below w14.heap.size w14 w14) := Lib.hid (Below.refl _ _)
  have C1 := CT.out w14 (Below.refl _ _)
  obtain ⟨⟨t1, t2⟩, htc⟩ : ∃ t, typesCheck q3 = t := ⟨_, rfl⟩
  rw [htc] at C1
  have C1 := Lib.hid C1
  clear htc
  clear c2 f2 hl3 hsup hq3 hv3 hl4 CT Hw14 Hr Hx14 HI14
  have row := HxW.out _ HBq14.out
  have q0 := cell_at row 0
  have q1 := cell_at row 1
  have q2 := cell_at row 2
  have q3c := cell_at row 3
  simp only [sl7, sl8, sl9] at q0 q1 q2 q3c
  clear row
  go_wp2_with fail
  clear q0 q1 q2 q3c
  refine C1.out.mono ?_
  rintro e w15 ⟨rfl, hb15⟩
  have HBq15 : Hid (Below w14.heap.size w14 w15) := Lib.hid hb15
  have C2 := Lib.hid (CE.out w15 HBq15.out)
  clear C1 hb15 CE
  have row := HxW.out _ HBq15.out
  have q0 := cell_at row 0
  have q1 := cell_at row 1
  have q2 := cell_at row 2
  have q3c := cell_at row 3
  simp only [sl7, sl8, sl9] at q0 q1 q2 q3c
  clear row
  go_wp2_with fail
  clear q0 q1 q2 q3c
  refine C2.out.mono ?_
  rintro e w16 ⟨⟨F1, F2⟩, rfl, hF3, hb16⟩
  have HBq16 : Hid (Below w14.heap.size w14 w16) := Lib.hid (HBq15.out.trans (hb16.mono HBq15.out.size))
  have HF3 := Lib.hid hF3
  have HBw16 : Hid (Below w2.heap.size w2 w16) := Lib.hid (HBq.out _ HBq16.out)
  have C3 := Lib.hid (CO.out w16 HBq16.out)
  clear C2 hb16 hF3 CO
  dsimp only
  by_cases z1 : t2 = 0
  ·subst z1
   by_cases z2 : F2 = 0
   ·subst z2
    have row := HxW.out _ HBq16.out
    have q0 := cell_at row 0
    have q1 := cell_at row 1
    have q2 := cell_at row 2
    have q3c := cell_at row 3
    simp only [sl7, sl8, sl9] at q0 q1 q2 q3c
    clear row
    go_wp2_with fail
    clear q0 q1 q2 q3c
    refine C3.out.mono ?_
    rintro e w17 ⟨G, hG, hb17, hE⟩
    have hG0 : G = (F1, 0) := (HF3.out.det hG).symm
    subst hG0
    rcases hE with ⟨h0, -⟩ | ⟨-, s4, Db4, hev4, rfl, hd4, -⟩
    ·exact absurd rfl h0
    have hmo := efl_more HSup.out.1 HSup.out.2 HEv.out hev4
    have HBw17 : Hid (Below w2.heap.size w2 w17) := Lib.hid (HBw16.out.trans (hb17.mono HBw16.out.size))
    have HB417 : Hid (Below w4.heap.size w4 w17) := Lib.hid (HB414.out.trans ((HBq16.out.trans (hb17.mono HBq16.out.size)).mono HB414.out.size))
    rw [HSup.out.2]
    have CS : Hid (∀ c1 c2 : Nat, Calls Tryz.prog 29 #[.slice (some ⟨Db, 0, none⟩) p.fs.length c1, .slice (some ⟨Db4, 0, none⟩) p.fs.length c2] w17 fun e w' => e = .returned (.bool true) ∧ Below w17.heap.size w17 w') := Lib.hid (fun c1 c2 => by
     have h := same06_any s1.does Db Db4 c1 c2 w17 (HD.out _ HB417.out) (fun j e he => (cell_at hd4 j).trans (lookV (f := fun e : Nat => Value.int .u8 (e : Int)) ((hmo.2 j (List.getElem?_eq_some_iff.1 he).1).trans he))) (by rw [hdl]; have := HSm.out.heads; omega)
     rwa [hdl] at h)
    have k1 : (0 : Int) ≤ (p.fs.length : Int) := Int.natCast_nonneg _
    have k2 : (p.fs.length : Int) ≤ 262144 := by omega
    have e0 : (((p.fs.length + 1 : Nat) : Int) == IntKind.i64.wrap ((p.fs.length : Int) + 1)) = true := by
     rw [IntKind.wrap_i64]; simp; omega
    clear C3 hG hb17 hev4 hd4 hmo
    go_wp2_with fail
    refine (CS.out _ _).mono ?_
    rintro e w18 ⟨rfl, hb18⟩
    have HBw18 : Hid (Below w2.heap.size w2 w18) := Lib.hid (HBw17.out.trans (hb18.mono HBw17.out.size))
    clear hb18 CS e0
    go_wp2_with fail
    refine (alive06_any w18 (HG.out _ HBw18.out).1).mono ?_
    rintro e w99 ⟨rfl, hb⟩
    have HBz := Lib.hid ((HBw.out _ HBw18.out).trans (hb.mono (HBw.out _ HBw18.out).size))
    clear hb
    go_wp2_with fail
    go_ret
    exact ⟨rfl, HBz.out⟩
   ·have e2 : (F2 != 0) = true := by simpa using z2
    clear z2
    go_wp2_with fail
    refine (alive06_any w16 (HG.out _ HBw16.out).1).mono ?_
    rintro e w99 ⟨rfl, hb⟩
    have HBz := Lib.hid ((HBw.out _ HBw16.out).trans (hb.mono (HBw.out _ HBw16.out).size))
    clear hb
    go_wp2_with fail
    go_ret
    exact ⟨rfl, HBz.out⟩
  ·have e1 : (t2 != 0) = true := by simpa using z1
   clear z1
   go_wp2_with fail
   refine (alive06_any w16 (HG.out _ HBw16.out).1).mono ?_
   rintro e w99 ⟨rfl, hb⟩
   have HBz := Lib.hid ((HBw.out _ HBw16.out).trans (hb.mono (HBw.out _ HBw16.out).size))
   clear hb
   go_wp2_with fail
   go_ret
   exact ⟨rfl, HBz.out⟩
theorem moG_of {W : World} (hL : laidMetH Tryz.prog Rows.effectMoreRow.laid W) (hSh : W.ShapedOpen Tryz.prog) : MoG W := by
 obtain ⟨h0, h1, h2, h3, h4⟩ := num_of_tail (laid_tail hL).tail
 exact ⟨⟨GlB.of (lglobs_of hSh), ⟨h0, h1, h2, h3, h4⟩⟩, globs_of_laid hL⟩
end Go.Proofs.YtkklogikakcanaaGreatDoor
