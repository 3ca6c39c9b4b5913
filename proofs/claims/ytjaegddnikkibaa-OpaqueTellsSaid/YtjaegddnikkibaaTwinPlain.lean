/-
  Attempts that differ in where their events lie alone have the same answers; plain.
-/
import Derived.Test.YtjaegddnikkibaaOpaquePlain
import Derived.Test.YtjaegddnikkibaaAttOpen
import Derived.Test.YtjaegddnikkibaaOwnKit
import Derived.Deep.OwnRows
import Derived.Test.YtjaegddnikkibaaCopyRow
import Derived.Below
set_option linter.unusedVariables false
set_option linter.unusedSimpArgs false
namespace Go.Proofs.Ytjaegddnikkibaa
open Go Go.Sort

def core (x : Att) : Att := { x with dA := none, dc := 0 }
theorem attN_core (l : List Att) (i : Int) : attN (l.map core) i = core (attN l i) := by
  unfold attN
  rw [List.getD_eq_getElem?_getD, List.getD_eq_getElem?_getD, List.getElem?_map]
  cases l[i.toNat]? <;> rfl
theorem committed_core : ∀ (l : List Att) (k : Nat), committed k (l.map core) = committed k l
  | [], _ => rfl
  | x :: r, k => by
    rw [List.map_cons, committed, committed, committed_core r (k + 1)]; rfl
theorem ltN_core (l : List Att) : ltN (l.map core) = ltN l := funext fun i => funext fun j => by
  unfold ltN
  rw [attN_core, attN_core]; rfl
theorem orderV_core (l : List Att) : orderV (l.map core) = orderV l := by
  unfold orderV
  rw [ltN_core, committed_core]
theorem totalSize_core : ∀ (l : List Att), totalSize (l.map core) = totalSize l
  | [] => rfl
  | x :: r => by rw [List.map_cons, totalSize, totalSize, totalSize_core r]; rfl
theorem okFrom_core : ∀ (l : List Att) (p : Option Int), okFrom p (l.map core) = okFrom p l
  | [], _ => rfl
  | x :: r, p => by
    have ih := okFrom_core r (some x.bg)
    rw [List.map_cons]
    unfold okFrom
    rw [show (core x).bg = x.bg from rfl, ih]
    rfl
theorem checkedV_core (l : List Att) : checkedV (l.map core) = checkedV l := by
  unfold checkedV
  rw [totalSize_core, okFrom_core]
theorem freshV_core (l : List Att) (o : List Int) (n : Int) : freshV (l.map core) o n = freshV l o n := by
  unfold freshV
  congr 1
  funext i
  rw [attN_core, attN_core]; rfl
theorem heapV_core (l : List Att) (o : List Int) (n : Int) : heapV (l.map core) o n = heapV l o n := by
  unfold heapV
  congr 1
  funext h i
  rw [attN_core, attN_core]; rfl
theorem seenB_core (l : List Att) : seenB (l.map core) = seenB l := funext fun n => by
  unfold seenB
  rw [orderV_core, freshV_core, heapV_core, attN_core]; rfl
theorem ocheckV_core (l : List Att) : ocheckV (l.map core) = ocheckV l := by
  unfold ocheckV
  rw [checkedV_core, seenB_core, List.length_map]
theorem lawfulV_core (l : List Att) (y : Att) (a : Int) : lawfulV (l.map core) (core y) a = lawfulV l y a := by
  unfold lawfulV
  rw [List.any_map, List.any_map]; rfl
theorem ownGo_core (l : List Att) (y : Att) : ∀ (r pre : List Ev), ownGo (l.map core) (core y) pre r = ownGo l y pre r
  | [], _ => rfl
  | e :: r, pre => by rw [ownGo, ownGo, lawfulV_core, ownGo_core l y r]
theorem ownB_core (l : List Att) : ownB (l.map core) = ownB l := funext fun n => by
  unfold ownB
  rw [attN_core, ownGo_core]; rfl
theorem oownV_core (l : List Att) : oownV (l.map core) = oownV l := by
  unfold oownV
  rw [checkedV_core, ownB_core, List.length_map]
theorem ocheckV_same {l l' : List Att} (h : l'.map core = l.map core) : ocheckV l' = ocheckV l := by rw [← ocheckV_core l', h, ocheckV_core]
theorem oownV_same {l l' : List Att} (h : l'.map core = l.map core) : oownV l' = oownV l := by rw [← oownV_core l', h, oownV_core]
theorem core_len {l l' : List Att} (h : l'.map core = l.map core) : l'.length = l.length := by
  have := congrArg List.length h
  simpa using this
theorem core_get {l l' : List Att} (h : l'.map core = l.map core) {k : Nat} (h1 : k < l'.length) (h2 : k < l.length) : core l'[k] = core l[k] := by
  have e := congrArg (fun m => m[k]?) h
  simp only [List.getElem?_map, List.getElem?_eq_getElem h1, List.getElem?_eq_getElem h2, Option.map_some] at e
  injection e

/-- the marks behind a twin -/
def markE (n : Nat) : Ev := ⟨-1000 - (n : Int), 0, 0, 0⟩
def marksE (n : Nat) : List Ev := [markE n, markE (n + 1)]
def markA (n : Nat) : Att := ⟨-1000 - (n : Int), 0, 0, 0, 0, 0, false, none, 0, []⟩
end Go.Proofs.Ytjaegddnikkibaa
namespace Go.Proofs.Ytjaegddnikkibaa
open Go Go.RowKit

/-- the world behind the stores of an element's cells -/
def putAll (w : World) (g : Nat) : Nat → List Value → World
  | _, [] => w
  | o, u :: us => putAll (w.setCell ⟨g, o, none⟩ u) g (o + 1) us
theorem own_more {w : World} {base : Nat} {e : TypeId} {k g n cap : Nat} {xs : List Value} (h : w.ownsRow base e k (.slice (some ⟨g, 0, none⟩) n cap) n xs) (hn : n < cap) :
    ∃ ys, ys.length = k ∧ w.ownsRow base e k (.slice (some ⟨g, 0, none⟩) (n + 1) cap) (n + 1) (xs ++ ys) := by
  obtain ⟨hl, h2⟩ := h
  rcases h2 with ⟨h', _⟩ | ⟨g', cap', cur, h', hb, hg, hnc, hcm, hcs, htake⟩
  · simp at h'
  · simp only [Value.slice.injEq, Option.some.injEq, Addr.mk.injEq, and_true, true_and] at h'
    obtain ⟨rfl, rfl⟩ := h'
    have hm : (n + 1) * k ≤ cap * k := Nat.mul_le_mul_right _ hn
    have hs : (n + 1) * k = n * k + k := Nat.succ_mul n k
    have e1 : ((cur.toList.drop (n * k)).take k).length = k := by
      rw [List.length_take, List.length_drop, Array.length_toList]; omega
    refine ⟨(cur.toList.drop (n * k)).take k, e1, by rw [List.length_append, e1, hl, hs], .inr ⟨g, cap, cur, rfl, hb, hg, hn, hcm, hcs, ?_⟩⟩
    rw [hs, List.take_add, htake]
theorem own_putAll {base : Nat} {e : TypeId} {k g n cap : Nat} : ∀ (us ys pre : List Value) (w : World), w.ownsRow base e k (.slice (some ⟨g, 0, none⟩) n cap) n (pre ++ ys) → ys.length = us.length →
    (putAll w g pre.length us).ownsRow base e k (.slice (some ⟨g, 0, none⟩) n cap) n (pre ++ us)
  | [], ys, pre, w, h, hl => by
    obtain rfl : ys = [] := List.eq_nil_of_length_eq_zero hl
    exact h
  | u :: us, [], pre, w, h, hl => by simp at hl
  | u :: us, y :: ys, pre, w, h, hl => by
    have h1 := (World.ownsRow.stored h pre.length u).1
    rw [List.set_append_right _ _ (Nat.le_refl _), Nat.sub_self, List.set_cons_zero] at h1
    have ih := own_putAll us ys (pre ++ [u]) (w.setCell ⟨g, pre.length, none⟩ u) (by rw [List.append_assoc]; exact h1) (by simpa using hl)
    rw [List.append_assoc, List.length_append, List.length_singleton] at ih
    exact ih
/-- one element more -/
theorem own_fill {base : Nat} {e : TypeId} {k g n cap : Nat} {w : World} {xs : List Value} (h : w.ownsRow base e k (.slice (some ⟨g, 0, none⟩) n cap) n xs) (hn : n < cap) (us : List Value) (hu : us.length = k) :
    (putAll w g (n * k) us).ownsRow base e k (.slice (some ⟨g, 0, none⟩) (n + 1) cap) (n + 1) (xs ++ us) := by
  obtain ⟨ys, hy, h2⟩ := own_more h hn
  have := own_putAll us ys xs w h2 (by omega)
  rwa [h.1] at this
theorem putAll_below {B : Nat} {w0 : World} {g : Nat} (hg : B ≤ g) : ∀ (us : List Value) (o : Nat) (w : World), Below B w0 w → Below B w0 (putAll w g o us)
  | [], _, _, hb => hb
  | u :: us, o, w, hb => putAll_below hg us (o + 1) _ (hb.setCell (p := ⟨g, o, none⟩) hg u)
theorem putAll_cell {g : Nat} : ∀ (us : List Value) (o : Nat) (w : World) (p : Addr), p.block ≠ g → (putAll w g o us).cell? p = w.cell? p
  | [], _, _, _, _ => rfl
  | u :: us, o, w, p, hp => by
    rw [putAll, putAll_cell us (o + 1) _ p hp]
    exact World.cell?_setCell_other _ _ _ _ (fun e => hp (by rw [← e]))
theorem putAll_size {g : Nat} : ∀ (us : List Value) (o : Nat) (w : World), (putAll w g o us).heap.size = w.heap.size
  | [], _, _ => rfl
  | u :: us, o, w => by
    rw [putAll, putAll_size us (o + 1)]
    simp
/-- an owned row of no elements yet, in a block just made -/
theorem own_begin (w : World) (cs : Array Value) (T : TypeId) (k cap : Nat) (hc : cap ≤ maxLen) (hs : cs.size = cap * k) :
    (w.alloc (.cells cs T)).ownsRow w.heap.size T k (.slice (some ⟨w.heap.size, 0, none⟩) 0 cap) 0 [] :=
  ⟨by simp, .inr ⟨w.heap.size, cap, cs, rfl, Nat.le_refl _, heap_alloc_new w _, Nat.zero_le _, hc, hs, by simp⟩⟩
/-- the room behind, all of it -/
theorem own_rooms {w : World} {base : Nat} {e : TypeId} {k g n cap : Nat} {xs : List Value} (h : w.ownsRow base e k (.slice (some ⟨g, 0, none⟩) n cap) n xs) {o : Nat} (ho : o + k ≤ cap * k) :
    (∀ j, j < k → ∃ u, w.cell? ⟨g, o + j, none⟩ = some u) ∧ ∀ j, w.frozen? ⟨g, j, none⟩ = false :=
  ⟨fun j hj => own_room h (by omega), fun j => h.frozenAt _⟩
end Go.Proofs.Ytjaegddnikkibaa

namespace Go.Proofs.Ytjaegddnikkibaa
open Go.RowKit Go.Sort

set_option maxHeartbeats 400000 in
theorem markEv_any (n : Int) (h1 : 0 ≤ n) (h2 : n ≤ 100000000000) (w : World) :
    Calls Try.prog 78 #[.int .i64 n] w fun e w' => e = .returned (.agg #[.int .i64 (-1000 - n), .int .u8 0, .int .i64 0, .int .i64 0]) ∧ Below w.heap.size w w' := by
  go_enter Try.func78, Try.ntmps78
  go_wp2
  exact bodyPost_ret (v := .agg #[.int .i64 (-1000 - n), .int .u8 0, .int .i64 0, .int .i64 0]) (by simp [results, Try.results78, go_sem]) rfl ⟨rfl, (Below.refl _ _).alloc (Nat.le_refl _) _⟩

theorem evInfoT : (Try.prog.info? 38).map (fun i => (i.zero, i.size, i.bytes)) = some (some (.agg #[.int .i64 0, .int .u8 0, .int .i64 0, .int .i64 0]), 4, 32) := by kernel_rfl
theorem evs_flat_len (l : List Ev) : (l.flatMap Ev.cells).length = l.length * 4 := by
  induction l with
  | nil => rfl
  | cons t l ih => rw [List.flatMap_cons, List.length_append, ih]; simp [Ev.cells]; omega
theorem evs_flat_one (l : List Ev) : ∀ v ∈ l.flatMap Ev.cells, v.oneCell' = true := fun v hv => by
  obtain ⟨t, _, ht⟩ := List.mem_flatMap.1 hv
  simp only [Ev.cells, List.mem_cons, List.not_mem_nil, or_false] at ht
  rcases ht with rfl | rfl | rfl | rfl <;> rfl
theorem evs_cells {w : World} {g off : Nat} {l : List Ev} (h : ∀ k t, l[k]? = some t → EvAt w g (off + k * 4) t) (j : Nat) (v : Value) (hv : (l.flatMap Ev.cells)[j]? = some v) : w.cell? ⟨g, off + j, none⟩ = some v := by
  have hj : j < l.length * 4 := by
    rw [← evs_flat_len]; exact (List.getElem?_eq_some_iff.1 hv).1
  have hk : j / 4 < l.length := by omega
  have ht := h (j / 4) _ (List.getElem?_eq_getElem hk)
  have e : j = (j / 4) * 4 + j % 4 := by omega
  have hf := flat_at Ev.cells 4 (fun _ => rfl) l (j / 4) (j % 4) _ (List.getElem?_eq_getElem hk) (by omega)
  rw [← e, hv] at hf
  generalize l[j / 4] = t at *
  rw [e, ← Nat.add_assoc]
  rcases (by omega : j % 4 = 0 ∨ j % 4 = 1 ∨ j % 4 = 2 ∨ j % 4 = 3) with h4 | h4 | h4 | h4 <;> rw [h4] at hf ⊢ <;> rw [hf]
  · exact ht.c0
  · exact ht.c1
  · exact ht.c2
  · exact ht.c3
theorem evs_own {w : World} {base g n cap : Nat} {es : List Ev} (h : w.ownsRow base 38 4 (.slice (some ⟨g, 0, none⟩) n cap) n (es.flatMap Ev.cells)) (k : Nat) (e : Ev) (hk : es[k]? = some e) : EvAt w g (k * 4) e := by
  have hl := h.1
  rw [evs_flat_len] at hl
  have hlt : k < es.length := (List.getElem?_eq_some_iff.1 hk).1
  have key : ∀ j, j < 4 → w.cell? ⟨g, k * 4 + j, none⟩ = e.cells[j]? := fun j hj => by
    rw [h.cellAt (k * 4 + j) (by omega)]
    exact flat_at Ev.cells 4 (fun _ => rfl) es k j e hk hj
  exact ⟨key 0 (by decide), key 1 (by decide), key 2 (by decide), key 3 (by decide)⟩
theorem own_fill4 {base : Nat} {e : TypeId} {g n cap : Nat} {w : World} {xs : List Value} (h : w.ownsRow base e 4 (.slice (some ⟨g, 0, none⟩) n cap) n xs) (hn : n < cap) (a b c d : Value) :
    ((((w.setCell ⟨g, n * 4, none⟩ a).setCell ⟨g, n * 4 + 1, none⟩ b).setCell ⟨g, n * 4 + 2, none⟩ c).setCell ⟨g, n * 4 + 3, none⟩ d).ownsRow base e 4 (.slice (some ⟨g, 0, none⟩) (n + 1) cap) (n + 1) (xs ++ [a, b, c, d]) :=
  own_fill h hn [a, b, c, d] rfl
theorem made_ownk (w : World) (cs : Array Value) (T : TypeId) (k n : Nat) (hn : n ≤ 1000000) (hs : cs.size = (n + 2) * k) :
    (w.alloc (.cells cs T)).ownsRow w.heap.size T k (.slice (some ⟨w.heap.size, 0, none⟩) n (n + 2)) n (cs.toList.take (n * k)) :=
  ⟨by rw [List.length_take, Array.length_toList, hs]; exact Nat.min_eq_left (Nat.mul_le_mul_right _ (by omega)), .inr ⟨w.heap.size, n + 2, cs, rfl, Nat.le_refl _, heap_alloc_new w _, by omega, by simp only [maxLen]; omega, hs, rfl⟩⟩

set_option maxHeartbeats 2000000 in
set_option maxRecDepth 100000 in
theorem twinEvs_any (A : Option Addr) (c : Nat) (l : List Ev) (B : Nat) (w : World) (hT : EvsAt w B A l) (hBw : B ≤ w.heap.size) (hn : l.length ≤ 1000000) :
    Calls Try.prog 64 #[.slice A l.length c] w fun e w' => e = .returned (.slice (some ⟨w.heap.size, 0, none⟩) l.length (l.length + 2)) ∧
      w'.ownsRow w.heap.size 38 4 (.slice (some ⟨w.heap.size, 0, none⟩) (l.length + 2) (l.length + 2)) (l.length + 2) ((l ++ marksE l.length).flatMap Ev.cells) ∧ Below w.heap.size w w' := by
  obtain ⟨i0, hi0, hz0, hz1, hz2⟩ := info_parts evInfoT
  have hmk0 := run_make (P := Try.prog) w 33 38 i0 _ Try.underlying33 hi0 hz0 .i64 .i64 (l.length : Int) ((l.length : Int) + 2) (by omega) (by omega) (by rw [hz2]; omega) (by omega)
  rw [show ((l.length : Int) + 2).toNat = l.length + 2 by omega, Int.toNat_natCast, hz1] at hmk0
  obtain ⟨cs, hcs, hsz⟩ : ∃ cs, madeCells (Value.cells (.agg #[.int .i64 0, .int .u8 0, .int .i64 0, .int .i64 0])) ((l.length + 2) * 4) = cs ∧ cs.size = (l.length + 2) * 4 := ⟨_, rfl, size_madeCells _ _⟩
  rw [hcs] at hmk0
  clear hcs
  have hown := made_ownk w cs 38 4 l.length (by omega) hsz
  have hsrc : 0 < l.length → ∃ ad, A = some ad ∧ ∀ j v, (l.flatMap Ev.cells)[j]? = some v → (w.alloc (.cells cs 38)).cell? (ad.add j) = some v := fun hpos => by
    obtain ⟨g, off, hA, hg, hc⟩ := hT (by rintro rfl; simp at hpos)
    refine ⟨_, hA, fun j v hv => ?_⟩
    rw [add_plain, ← evs_cells hc j v hv]
    exact ((Below.refl w.heap.size w).alloc (Nat.le_refl _) _).cell (p := ⟨g, off + j, none⟩) (Nat.lt_of_lt_of_le hg hBw)
  have HS := Lib.hid hsrc
  have HO := Lib.hid hown
  have HL := Lib.hid (evs_flat_len l)
  have H1 := Lib.hid (evs_flat_one l)
  have HB0 : Hid (Below w.heap.size w (w.alloc (.cells cs 38))) := Lib.hid ((Below.refl w.heap.size w).alloc (Nat.le_refl _) _)
  have hE : (l ++ marksE l.length).flatMap Ev.cells = (l.flatMap Ev.cells ++ [.int .i64 (-1000 - (l.length : Int)), .int .u8 0, .int .i64 0, .int .i64 0]) ++ [.int .i64 (-1000 - ((l.length : Int) + 1)), .int .u8 0, .int .i64 0, .int .i64 0] := by
    rw [List.flatMap_append, List.append_assoc]; rfl
  rw [hE]
  clear hsrc hown hi0 hz0 hz1 hz2 hsz hT hE
  generalize hF : l.flatMap Ev.cells = F at *
  generalize hN : l.length = n at *
  clear hF hN
  have hi4 : (Try.prog.info? 38).map (·.size) = some 4 := by kernel_rfl
  have HI := Lib.hid hi4
  clear hi4
  go_enter Try.func64, Try.ntmps64
  go_wp2_with ((refine wpList_copy_full rfl (.tmp 12) (.tmp 13) 33 33 rfl 38 4 Try.underlying33 HI.out w.heap.size 38 w.heap.size n (n + 2) _ HO.out A c rfl rfl F HL.out HS.out H1.out ?_; intro w1 hown1 hgrow1))
  have HO1 := Lib.hid hown1
  have HB1 : Hid (Below w.heap.size w w1) := Lib.hid (HB0.out.grown hgrow1 (by simp) (fun k h => by injection h with h; omega))
  clear hown1 hgrow1 HS HO hmk0
  refine wp_loop_rounds 3 ?_
  rw [rounds_succ]
  go_wp2_with fail
  refine (markEv_any _ (by omega) (by omega) _).mono ?_
  rintro e w2 ⟨rfl, hb⟩
  have HO2 := Lib.hid (own_belowI HO1.out hb)
  have HB2 : Hid (Below w.heap.size w w2) := Lib.hid (HB1.out.trans (hb.mono HB1.out.size))
  clear hb
  obtain ⟨hroom, hfz⟩ := own_rooms (o := n * 4) HO2.out (by omega)
  obtain ⟨u0, k0⟩ := hroom 0 (by decide)
  obtain ⟨u1, k1⟩ := hroom 1 (by decide)
  obtain ⟨u2, k2⟩ := hroom 2 (by decide)
  obtain ⟨u3, k3⟩ := hroom 3 (by decide)
  rw [Nat.add_zero] at k0
  have z0 := hfz (n * 4)
  have z1 := hfz (n * 4 + 1)
  have z2 := hfz (n * 4 + 2)
  have z3 := hfz (n * 4 + 3)
  clear hroom hfz
  have HO3 := Lib.hid (own_fill4 HO2.out (by omega) (.int .i64 (-1000 - (n : Int))) (.int .u8 0) (.int .i64 0) (.int .i64 0))
  have HB3 := Lib.hid (putAll_below (g := w.heap.size) (Nat.le_refl _) [.int .i64 (-1000 - (n : Int)), .int .u8 0, .int .i64 0, .int .i64 0] (n * 4) _ HB2.out)
  simp only [putAll, Nat.add_assoc, Nat.reduceAdd] at HB3
  go_wp2_with fail
  clear k0 k1 k2 k3 z0 z1 z2 z3 HO2 HB2
  generalize (((w2.setCell ⟨w.heap.size, n * 4, none⟩ (.int .i64 (-1000 - (n : Int)))).setCell ⟨w.heap.size, n * 4 + 1, none⟩ (.int .u8 0)).setCell ⟨w.heap.size, n * 4 + 2, none⟩ (.int .i64 0)).setCell ⟨w.heap.size, n * 4 + 3, none⟩ (.int .i64 0) = w3 at HO3 HB3 ⊢
  rw [rounds_succ]
  go_wp2_with fail
  refine (markEv_any _ (by omega) (by omega) _).mono ?_
  rintro e w4 ⟨rfl, hb⟩
  have HO2 := Lib.hid (own_belowI HO3.out hb)
  have HB2 : Hid (Below w.heap.size w w4) := Lib.hid (HB3.out.trans (hb.mono HB3.out.size))
  clear hb
  obtain ⟨hroom, hfz⟩ := own_rooms (o := (n + 1) * 4) HO2.out (by omega)
  obtain ⟨u0, k0⟩ := hroom 0 (by decide)
  obtain ⟨u1, k1⟩ := hroom 1 (by decide)
  obtain ⟨u2, k2⟩ := hroom 2 (by decide)
  obtain ⟨u3, k3⟩ := hroom 3 (by decide)
  rw [Nat.add_zero] at k0
  have z0 := hfz ((n + 1) * 4)
  have z1 := hfz ((n + 1) * 4 + 1)
  have z2 := hfz ((n + 1) * 4 + 2)
  have z3 := hfz ((n + 1) * 4 + 3)
  clear hroom hfz
  have HO5 := Lib.hid (own_fill4 HO2.out (by omega) (.int .i64 (-1000 - ((n : Int) + 1))) (.int .u8 0) (.int .i64 0) (.int .i64 0))
  have HB5 := Lib.hid (putAll_below (g := w.heap.size) (Nat.le_refl _) [.int .i64 (-1000 - ((n : Int) + 1)), .int .u8 0, .int .i64 0, .int .i64 0] ((n + 1) * 4) _ HB2.out)
  simp only [putAll, Nat.add_assoc, Nat.reduceAdd] at HB5
  go_wp2_with fail
  clear k0 k1 k2 k3 z0 z1 z2 z3 HO2 HB2
  generalize (((w4.setCell ⟨w.heap.size, (n + 1) * 4, none⟩ (.int .i64 (-1000 - ((n : Int) + 1)))).setCell ⟨w.heap.size, (n + 1) * 4 + 1, none⟩ (.int .u8 0)).setCell ⟨w.heap.size, (n + 1) * 4 + 2, none⟩ (.int .i64 0)).setCell ⟨w.heap.size, (n + 1) * 4 + 3, none⟩ (.int .i64 0) = w5 at HO5 HB5 ⊢
  rw [rounds_succ]
  go_wp2_with fail
  go_ret
  exact ⟨rfl, HO5.out, HB5.out⟩
end Go.Proofs.Ytjaegddnikkibaa
