/-
  Attempts that differ in where their events lie alone have the same answers; plain.
-/
import Derived.Test.YtjaegddnikkibaaGreatDoorOpaquePlain
import Derived.Test.YtjaegddnikkibaaGreatDoorAttOpen
import Derived.Test.YtjaegddnikkibaaGreatDoorOwnKit
import Derived.Deep.OwnRows
import Derived.Test.YtjaegddnikkibaaGreatDoorCopyRow
import Derived.Below
import Derived.Test.YtjaegddnikkibaaGreatDoorRegion
set_option linter.unusedVariables false
set_option linter.unusedSimpArgs false
namespace Go.Proofs.YtjaegddnikkibaaGreatDoor
open Go Go.Sort

def core (x : Att) : Att := { x with dA := none, dc := 0 }
theorem attN_core (l : List Att) (i : Int) : attN (l.map core) i = core (attN l i) := by
  unfold attN
  rw [List.getD_eq_getElem?_getD, List.getD_eq_getElem?_getD, List.getElem?_map]
  cases l[i.toNat]? <;> rfl
theorem committed_core : ∀ (l : List Att) (k : Nat), committed k (l.map core) = committed k l
  | [], _ => rfl
  | x :: r, k => by
    rw [List.map_cons, committed, committed, committed_core r (k + 1)]; rfl
theorem ltN_core (l : List Att) : ltN (l.map core) = ltN l := funext fun i => funext fun j => by
  unfold ltN
  rw [attN_core, attN_core]; rfl
theorem orderV_core (l : List Att) : orderV (l.map core) = orderV l := by
  unfold orderV
  rw [ltN_core, committed_core]
theorem totalSize_core : ∀ (l : List Att), totalSize (l.map core) = totalSize l
  | [] => rfl
  | x :: r => by rw [List.map_cons, totalSize, totalSize, totalSize_core r]; rfl
theorem okFrom_core : ∀ (l : List Att) (p : Option Int), okFrom p (l.map core) = okFrom p l
  | [], _ => rfl
  | x :: r, p => by
    have ih := okFrom_core r (some x.bg)
    rw [List.map_cons]
    unfold okFrom
    rw [show (core x).bg = x.bg from rfl, ih]
    rfl
theorem checkedV_core (l : List Att) : checkedV (l.map core) = checkedV l := by
  unfold checkedV
  rw [totalSize_core, okFrom_core]
theorem freshV_core (l : List Att) (o : List Int) (n : Int) : freshV (l.map core) o n = freshV l o n := by
  unfold freshV
  congr 1
  funext i
  rw [attN_core, attN_core]; rfl
theorem heapV_core (l : List Att) (o : List Int) (n : Int) : heapV (l.map core) o n = heapV l o n := by
  unfold heapV
  congr 1
  funext h i
  rw [attN_core, attN_core]; rfl
theorem seenB_core (l : List Att) : seenB (l.map core) = seenB l := funext fun n => by
  unfold seenB
  rw [orderV_core, freshV_core, heapV_core, attN_core]; rfl
theorem ocheckV_core (l : List Att) : ocheckV (l.map core) = ocheckV l := by
  unfold ocheckV
  rw [checkedV_core, seenB_core, List.length_map]
theorem lawfulV_core (l : List Att) (y : Att) (a : Int) : lawfulV (l.map core) (core y) a = lawfulV l y a := by
  unfold lawfulV
  rw [List.any_map, List.any_map]; rfl
theorem ownGo_core (l : List Att) (y : Att) : ∀ (r pre : List Ev), ownGo (l.map core) (core y) pre r = ownGo l y pre r
  | [], _ => rfl
  | e :: r, pre => by rw [ownGo, ownGo, lawfulV_core, ownGo_core l y r]
theorem ownB_core (l : List Att) : ownB (l.map core) = ownB l := funext fun n => by
  unfold ownB
  rw [attN_core, ownGo_core]; rfl
theorem oownV_core (l : List Att) : oownV (l.map core) = oownV l := by
  unfold oownV
  rw [checkedV_core, ownB_core, List.length_map]
theorem ocheckV_same {l l' : List Att} (h : l'.map core = l.map core) : ocheckV l' = ocheckV l := by rw [← ocheckV_core l', h, ocheckV_core]
theorem oownV_same {l l' : List Att} (h : l'.map core = l.map core) : oownV l' = oownV l := by rw [← oownV_core l', h, oownV_core]
theorem core_len {l l' : List Att} (h : l'.map core = l.map core) : l'.length = l.length := by
  have := congrArg List.length h
  simpa using this
theorem core_get {l l' : List Att} (h : l'.map core = l.map core) {k : Nat} (h1 : k < l'.length) (h2 : k < l.length) : core l'[k] = core l[k] := by
  have e := congrArg (fun m => m[k]?) h
  simp only [List.getElem?_map, List.getElem?_eq_getElem h1, List.getElem?_eq_getElem h2, Option.map_some] at e
  injection e

/-- the marks behind a twin -/
def markE (n : Nat) : Ev := ⟨-1000 - (n : Int), 0, 0, 0⟩
def marksE (n : Nat) : List Ev := [markE n, markE (n + 1)]
def markA (n : Nat) : Att := ⟨-1000 - (n : Int), 0, 0, 0, 0, 0, false, none, 0, []⟩
end Go.Proofs.YtjaegddnikkibaaGreatDoor

namespace Go.Proofs.YtjaegddnikkibaaGreatDoor
open Go.RowKit Go.Sort

set_option maxHeartbeats 400000 in
theorem markEv_any (n : Int) (h1 : 0 ≤ n) (h2 : n ≤ 100000000000) (w : World) :
    Calls Tryz.prog 142 #[.int .i64 n] w fun e w' => e = .returned (.agg #[.int .i64 (-1000 - n), .int .u8 0, .int .i64 0, .int .i64 0]) ∧ Below w.heap.size w w' := by
  go_enter Tryz.func142, Tryz.ntmps142
  go_wp2
  exact bodyPost_ret (v := .agg #[.int .i64 (-1000 - n), .int .u8 0, .int .i64 0, .int .i64 0]) (by simp [results, Tryz.results142, go_sem]) rfl ⟨rfl, (Below.refl _ _).alloc (Nat.le_refl _) _⟩

theorem evInfoT : (Tryz.prog.info? 101).map (fun i => (i.zero, i.size, i.bytes)) = some (some (.agg #[.int .i64 0, .int .u8 0, .int .i64 0, .int .i64 0]), 4, 32) := by kernel_rfl
theorem evs_flat_len (l : List Ev) : (l.flatMap Ev.cells).length = l.length * 4 := by
  induction l with
  | nil => rfl
  | cons t l ih => rw [List.flatMap_cons, List.length_append, ih]; simp [Ev.cells]; omega
theorem evs_flat_one (l : List Ev) : ∀ v ∈ l.flatMap Ev.cells, v.oneCell' = true := fun v hv => by
  obtain ⟨t, _, ht⟩ := List.mem_flatMap.1 hv
  simp only [Ev.cells, List.mem_cons, List.not_mem_nil, or_false] at ht
  rcases ht with rfl | rfl | rfl | rfl <;> rfl
theorem evs_cells {w : World} {g off : Nat} {l : List Ev} (h : ∀ k t, l[k]? = some t → EvAt w g (off + k * 4) t) (j : Nat) (v : Value) (hv : (l.flatMap Ev.cells)[j]? = some v) : w.cell? ⟨g, off + j, none⟩ = some v := by
  have hj : j < l.length * 4 := by
    rw [← evs_flat_len]; exact (List.getElem?_eq_some_iff.1 hv).1
  have hk : j / 4 < l.length := by omega
  have ht := h (j / 4) _ (List.getElem?_eq_getElem hk)
  have e : j = (j / 4) * 4 + j % 4 := by omega
  have hf := flat_at Ev.cells 4 (fun _ => rfl) l (j / 4) (j % 4) _ (List.getElem?_eq_getElem hk) (by omega)
  rw [← e, hv] at hf
  generalize l[j / 4] = t at *
  rw [e, ← Nat.add_assoc]
  rcases (by omega : j % 4 = 0 ∨ j % 4 = 1 ∨ j % 4 = 2 ∨ j % 4 = 3) with h4 | h4 | h4 | h4 <;> rw [h4] at hf ⊢ <;> rw [hf]
  · exact ht.c0
  · exact ht.c1
  · exact ht.c2
  · exact ht.c3
theorem evs_own {w : World} {base g n cap : Nat} {es : List Ev} (h : w.ownsRow base 101 4 (.slice (some ⟨g, 0, none⟩) n cap) n (es.flatMap Ev.cells)) (k : Nat) (e : Ev) (hk : es[k]? = some e) : EvAt w g (k * 4) e := by
  have hl := h.1
  rw [evs_flat_len] at hl
  have hlt : k < es.length := (List.getElem?_eq_some_iff.1 hk).1
  have key : ∀ j, j < 4 → w.cell? ⟨g, k * 4 + j, none⟩ = e.cells[j]? := fun j hj => by
    rw [h.cellAt (k * 4 + j) (by omega)]
    exact flat_at Ev.cells 4 (fun _ => rfl) es k j e hk hj
  exact ⟨key 0 (by decide), key 1 (by decide), key 2 (by decide), key 3 (by decide)⟩
theorem own_fill4 {base : Nat} {e : TypeId} {g n cap : Nat} {w : World} {xs : List Value} (h : w.ownsRow base e 4 (.slice (some ⟨g, 0, none⟩) n cap) n xs) (hn : n < cap) (a b c d : Value) :
    ((((w.setCell ⟨g, n * 4, none⟩ a).setCell ⟨g, n * 4 + 1, none⟩ b).setCell ⟨g, n * 4 + 2, none⟩ c).setCell ⟨g, n * 4 + 3, none⟩ d).ownsRow base e 4 (.slice (some ⟨g, 0, none⟩) (n + 1) cap) (n + 1) (xs ++ [a, b, c, d]) :=
  own_fill h hn [a, b, c, d] rfl
theorem made_ownk (w : World) (cs : Array Value) (T : TypeId) (k n : Nat) (hn : n ≤ 1000000) (hs : cs.size = (n + 2) * k) :
    (w.alloc (.cells cs T)).ownsRow w.heap.size T k (.slice (some ⟨w.heap.size, 0, none⟩) n (n + 2)) n (cs.toList.take (n * k)) :=
  ⟨by rw [List.length_take, Array.length_toList, hs]; exact Nat.min_eq_left (Nat.mul_le_mul_right _ (by omega)), .inr ⟨w.heap.size, n + 2, cs, rfl, Nat.le_refl _, heap_alloc_new w _, by omega, by simp only [maxLen]; omega, hs, rfl⟩⟩

set_option maxHeartbeats 2000000 in
set_option maxRecDepth 100000 in
theorem twinEvs_any (A : Option Addr) (c : Nat) (l : List Ev) (B : Nat) (w : World) (hT : EvsAt w B A l) (hBw : B ≤ w.heap.size) (hn : l.length ≤ 1000000) :
    Calls Tryz.prog 124 #[.slice A l.length c] w fun e w' => e = .returned (.slice (some ⟨w.heap.size, 0, none⟩) l.length (l.length + 2)) ∧
      w'.ownsRow w.heap.size 101 4 (.slice (some ⟨w.heap.size, 0, none⟩) (l.length + 2) (l.length + 2)) (l.length + 2) ((l ++ marksE l.length).flatMap Ev.cells) ∧ Below w.heap.size w w' := by
  obtain ⟨i0, hi0, hz0, hz1, hz2⟩ := info_parts evInfoT
  have hmk0 := run_make (P := Tryz.prog) w 72 101 i0 _ Tryz.underlying72 hi0 hz0 .i64 .i64 (l.length : Int) ((l.length : Int) + 2) (by omega) (by omega) (by rw [hz2]; omega) (by omega)
  rw [show ((l.length : Int) + 2).toNat = l.length + 2 by omega, Int.toNat_natCast, hz1] at hmk0
  obtain ⟨cs, hcs, hsz⟩ : ∃ cs, madeCells (Value.cells (.agg #[.int .i64 0, .int .u8 0, .int .i64 0, .int .i64 0])) ((l.length + 2) * 4) = cs ∧ cs.size = (l.length + 2) * 4 := ⟨_, rfl, size_madeCells _ _⟩
  rw [hcs] at hmk0
  clear hcs
  have hown := made_ownk w cs 101 4 l.length (by omega) hsz
  have hsrc : 0 < l.length → ∃ ad, A = some ad ∧ ∀ j v, (l.flatMap Ev.cells)[j]? = some v → (w.alloc (.cells cs 101)).cell? (ad.add j) = some v := fun hpos => by
    obtain ⟨g, off, hA, hg, hc⟩ := hT (by rintro rfl; simp at hpos)
    refine ⟨_, hA, fun j v hv => ?_⟩
    rw [add_plain, ← evs_cells hc j v hv]
    exact ((Below.refl w.heap.size w).alloc (Nat.le_refl _) _).cell (p := ⟨g, off + j, none⟩) (Nat.lt_of_lt_of_le hg hBw)
  have HS := Lib.hid hsrc
  have HO := Lib.hid hown
  have HL := Lib.hid (evs_flat_len l)
  have H1 := Lib.hid (evs_flat_one l)
  have HB0 : Hid (Below w.heap.size w (w.alloc (.cells cs 101))) := Lib.hid ((Below.refl w.heap.size w).alloc (Nat.le_refl _) _)
  have hE : (l ++ marksE l.length).flatMap Ev.cells = (l.flatMap Ev.cells ++ [.int .i64 (-1000 - (l.length : Int)), .int .u8 0, .int .i64 0, .int .i64 0]) ++ [.int .i64 (-1000 - ((l.length : Int) + 1)), .int .u8 0, .int .i64 0, .int .i64 0] := by
    rw [List.flatMap_append, List.append_assoc]; rfl
  rw [hE]
  clear hsrc hown hi0 hz0 hz1 hz2 hsz hT hE
  generalize hF : l.flatMap Ev.cells = F at *
  generalize hN : l.length = n at *
  clear hF hN
  have hi4 : (Tryz.prog.info? 101).map (·.size) = some 4 := by kernel_rfl
  have HI := Lib.hid hi4
  clear hi4
  go_enter Tryz.func124, Tryz.ntmps124
  go_wp2_with ((refine wpList_copy_full rfl (.tmp 12) (.tmp 13) 72 72 rfl 101 4 Tryz.underlying72 HI.out w.heap.size 101 w.heap.size n (n + 2) _ HO.out A c rfl rfl F HL.out HS.out H1.out ?_; intro w1 hown1 hgrow1))
  have HO1 := Lib.hid hown1
  have HB1 : Hid (Below w.heap.size w w1) := Lib.hid (HB0.out.grown hgrow1 (by simp) (fun k h => by injection h with h; omega))
  clear hown1 hgrow1 HS HO hmk0
  refine wp_loop_rounds 3 ?_
  rw [rounds_succ]
  go_wp2_with fail
  refine (markEv_any _ (by omega) (by omega) _).mono ?_
  rintro e w2 ⟨rfl, hb⟩
  have HO2 := Lib.hid (own_belowI HO1.out hb)
  have HB2 : Hid (Below w.heap.size w w2) := Lib.hid (HB1.out.trans (hb.mono HB1.out.size))
  clear hb
  obtain ⟨hroom, hfz⟩ := own_rooms (o := n * 4) HO2.out (by omega)
  obtain ⟨u0, k0⟩ := hroom 0 (by decide)
  obtain ⟨u1, k1⟩ := hroom 1 (by decide)
  obtain ⟨u2, k2⟩ := hroom 2 (by decide)
  obtain ⟨u3, k3⟩ := hroom 3 (by decide)
  rw [Nat.add_zero] at k0
  have z0 := hfz (n * 4)
  have z1 := hfz (n * 4 + 1)
  have z2 := hfz (n * 4 + 2)
  have z3 := hfz (n * 4 + 3)
  clear hroom hfz
  have HO3 := Lib.hid (own_fill4 HO2.out (by omega) (.int .i64 (-1000 - (n : Int))) (.int .u8 0) (.int .i64 0) (.int .i64 0))
  have HB3 := Lib.hid (putAll_below (g := w.heap.size) (Nat.le_refl _) [.int .i64 (-1000 - (n : Int)), .int .u8 0, .int .i64 0, .int .i64 0] (n * 4) _ HB2.out)
  simp only [putAll, Nat.add_assoc, Nat.reduceAdd] at HB3
  go_wp2_with fail
  clear k0 k1 k2 k3 z0 z1 z2 z3 HO2 HB2
  generalize (((w2.setCell ⟨w.heap.size, n * 4, none⟩ (.int .i64 (-1000 - (n : Int)))).setCell ⟨w.heap.size, n * 4 + 1, none⟩ (.int .u8 0)).setCell ⟨w.heap.size, n * 4 + 2, none⟩ (.int .i64 0)).setCell ⟨w.heap.size, n * 4 + 3, none⟩ (.int .i64 0) = w3 at HO3 HB3 ⊢
  rw [rounds_succ]
  go_wp2_with fail
  refine (markEv_any _ (by omega) (by omega) _).mono ?_
  rintro e w4 ⟨rfl, hb⟩
  have HO2 := Lib.hid (own_belowI HO3.out hb)
  have HB2 : Hid (Below w.heap.size w w4) := Lib.hid (HB3.out.trans (hb.mono HB3.out.size))
  clear hb
  obtain ⟨hroom, hfz⟩ := own_rooms (o := (n + 1) * 4) HO2.out (by omega)
  obtain ⟨u0, k0⟩ := hroom 0 (by decide)
  obtain ⟨u1, k1⟩ := hroom 1 (by decide)
  obtain ⟨u2, k2⟩ := hroom 2 (by decide)
  obtain ⟨u3, k3⟩ := hroom 3 (by decide)
  rw [Nat.add_zero] at k0
  have z0 := hfz ((n + 1) * 4)
  have z1 := hfz ((n + 1) * 4 + 1)
  have z2 := hfz ((n + 1) * 4 + 2)
  have z3 := hfz ((n + 1) * 4 + 3)
  clear hroom hfz
  have HO5 := Lib.hid (own_fill4 HO2.out (by omega) (.int .i64 (-1000 - ((n : Int) + 1))) (.int .u8 0) (.int .i64 0) (.int .i64 0))
  have HB5 := Lib.hid (putAll_below (g := w.heap.size) (Nat.le_refl _) [.int .i64 (-1000 - ((n : Int) + 1)), .int .u8 0, .int .i64 0, .int .i64 0] ((n + 1) * 4) _ HB2.out)
  simp only [putAll, Nat.add_assoc, Nat.reduceAdd] at HB5
  go_wp2_with fail
  clear k0 k1 k2 k3 z0 z1 z2 z3 HO2 HB2
  generalize (((w4.setCell ⟨w.heap.size, (n + 1) * 4, none⟩ (.int .i64 (-1000 - ((n : Int) + 1)))).setCell ⟨w.heap.size, (n + 1) * 4 + 1, none⟩ (.int .u8 0)).setCell ⟨w.heap.size, (n + 1) * 4 + 2, none⟩ (.int .i64 0)).setCell ⟨w.heap.size, (n + 1) * 4 + 3, none⟩ (.int .i64 0) = w5 at HO5 HB5 ⊢
  rw [rounds_succ]
  go_wp2_with fail
  go_ret
  exact ⟨rfl, HO5.out, HB5.out⟩
end Go.Proofs.YtjaegddnikkibaaGreatDoor
namespace Go.Proofs.YtjaegddnikkibaaGreatDoor
open Go.RowKit Go.Sort

/-- a twin's events, marks behind -/
def TwEv (w : World) (g : Nat) (x : Att) : Prop :=
  ∃ b, x.dA = some ⟨b, 0, none⟩ ∧ x.dc = x.evs.length + 2 ∧ g < b ∧ b < w.heap.size ∧ ∀ k e, (x.evs ++ marksE x.evs.length)[k]? = some e → EvAt w b (k * 4) e
theorem TwEv.below {w W : World} {g : Nat} {x : Att} (h : TwEv w g x) (hb : Below w.heap.size w W) : TwEv W g x := by
  obtain ⟨b, h1, h2, h3, h4, h5⟩ := h
  exact ⟨b, h1, h2, h3, Nat.lt_of_lt_of_le h4 hb.size, fun k e he => (h5 k e he).keep fun o' => hb.cell (p := ⟨b, o', none⟩) h4⟩
theorem TwEv.put {w : World} {g : Nat} {x : Att} (h : TwEv w g x) (us : List Value) (o : Nat) : TwEv (putAll w g o us) g x := by
  obtain ⟨b, h1, h2, h3, h4, h5⟩ := h
  exact ⟨b, h1, h2, h3, by rw [putAll_size]; exact h4, fun k e he => (h5 k e he).keep fun o' => putAll_cell us o w ⟨b, o', none⟩ (Nat.ne_of_gt h3)⟩
theorem TwEv.evsAt {w : World} {g : Nat} {x : Att} (h : TwEv w g x) : EvsAt w w.heap.size x.dA x.evs := fun _ => by
  obtain ⟨b, h1, -, -, h4, h5⟩ := h
  refine ⟨b, 0, h1, h4, fun k e he => ?_⟩
  rw [Nat.zero_add]
  exact h5 k e (by rw [List.getElem?_append_left (List.getElem?_eq_some_iff.1 he).1]; exact he)
/-- a twin of a list of attempts -/
structure Twins (w : World) (g : Nat) (l : List Att) : Prop where
  own : w.ownsRow g 74 8 (.slice (some ⟨g, 0, none⟩) (l.length + 2) (l.length + 2)) (l.length + 2) ((l ++ [markA l.length, markA (l.length + 1)]).flatMap Att.cells)
  evs : ∀ x ∈ l, TwEv w g x
theorem Twins.below {w W : World} {g : Nat} {l : List Att} (h : Twins w g l) (hb : Below w.heap.size w W) : Twins W g l :=
  ⟨own_belowI h.own hb, fun x hx => (h.evs x hx).below hb⟩
theorem att_own {w : World} {base g n cap : Nat} {l : List Att} (h : w.ownsRow base 74 8 (.slice (some ⟨g, 0, none⟩) n cap) n (l.flatMap Att.cells)) (hn : n = l.length) (k : Nat) (x : Att) (hk : l[k]? = some x) : AttAt w g (k * 8) x := by
  have hlt : k < l.length := (List.getElem?_eq_some_iff.1 hk).1
  have key : ∀ j, j < 8 → w.cell? ⟨g, k * 8 + j, none⟩ = x.cells[j]? := fun j hj => by
    rw [h.cellAt (k * 8 + j) (by omega)]
    exact flat_at Att.cells 8 (fun _ => rfl) l k j x hk hj
  exact ⟨key 0 (by decide), key 1 (by decide), key 2 (by decide), key 3 (by decide), key 4 (by decide), key 5 (by decide), key 6 (by decide), key 7 (by decide)⟩
theorem Twins.at {w : World} {g : Nat} {l : List Att} (h : Twins w g l) (k : Nat) (x : Att) (hk : (l ++ [markA l.length, markA (l.length + 1)])[k]? = some x) : AttAt w g (k * 8) x :=
  att_own h.own (by simp) k x hk
theorem Twins.atts {w : World} {g : Nat} {l : List Att} (h : Twins w g l) : AttsAt w w.heap.size (some ⟨g, 0, none⟩) l :=
  ⟨fun hne => ⟨g, 0, rfl, World.block_lt_of_cell? _ _ (h.at 0 _ (List.getElem?_eq_getElem (by simp))).c0, fun k x hk => by
    rw [Nat.zero_add]
    exact h.at k x (by rw [List.getElem?_append_left (List.getElem?_eq_some_iff.1 hk).1]; exact hk)⟩, fun x hx => (h.evs x hx).evsAt⟩
theorem own_fill8 {base : Nat} {e : TypeId} {g n cap : Nat} {w : World} {xs : List Value} (h : w.ownsRow base e 8 (.slice (some ⟨g, 0, none⟩) n cap) n xs) (hn : n < cap) (a0 a1 a2 a3 a4 a5 a6 a7 : Value) :
    ((((((((w.setCell ⟨g, n * 8, none⟩ a0).setCell ⟨g, n * 8 + 1, none⟩ a1).setCell ⟨g, n * 8 + 2, none⟩ a2).setCell ⟨g, n * 8 + 3, none⟩ a3).setCell ⟨g, n * 8 + 4, none⟩ a4).setCell ⟨g, n * 8 + 5, none⟩ a5).setCell ⟨g, n * 8 + 6, none⟩ a6).setCell ⟨g, n * 8 + 7, none⟩ a7).ownsRow base e 8 (.slice (some ⟨g, 0, none⟩) (n + 1) cap) (n + 1) (xs ++ [a0, a1, a2, a3, a4, a5, a6, a7]) :=
  own_fill h hn [a0, a1, a2, a3, a4, a5, a6, a7] rfl

set_option maxHeartbeats 400000 in
theorem markAtt_any (n : Int) (h1 : 0 ≤ n) (h2 : n ≤ 100000000000) (w : World) :
    Calls Tryz.prog 22 #[.int .i64 n] w fun e w' => e = .returned (.agg #[.int .i64 (-1000 - n), .int .u8 0, .int .i64 0, .int .i64 0, .int .i64 0, .int .i64 0, .bool false, .slice none 0 0]) ∧ Below w.heap.size w w' := by
  go_enter Tryz.func22, Tryz.ntmps22
  go_wp2
  exact bodyPost_ret (v := .agg #[.int .i64 (-1000 - n), .int .u8 0, .int .i64 0, .int .i64 0, .int .i64 0, .int .i64 0, .bool false, .slice none 0 0]) (by simp [results, Tryz.results22, go_sem]) rfl ⟨rfl, (Below.refl _ _).alloc (Nat.le_refl _) _⟩

set_option maxHeartbeats 2000000 in
set_option maxRecDepth 100000 in
theorem twinAtt_any (x : Att) (B : Nat) (w : World) (hT : EvsAt w B x.dA x.evs) (hBw : B ≤ w.heap.size) (hn : x.evs.length ≤ 1000000) :
    Calls Tryz.prog 21 #[.agg #[.int .i64 x.th, .int .u8 x.kd, .int .i64 x.bg, .int .i64 x.en, .int .i64 x.ck, .int .i64 x.pl, .bool x.wr, .slice x.dA x.evs.length x.dc]] w fun e w' =>
      ∃ b, e = .returned (.agg #[.int .i64 x.th, .int .u8 x.kd, .int .i64 x.bg, .int .i64 x.en, .int .i64 x.ck, .int .i64 x.pl, .bool x.wr, .slice (some ⟨b, 0, none⟩) x.evs.length (x.evs.length + 2)]) ∧
        (∀ g, g < w.heap.size → TwEv w' g { x with dA := some ⟨b, 0, none⟩, dc := x.evs.length + 2 }) ∧ Below w.heap.size w w' := by
  obtain ⟨th, kd, bg, en, ck, pl, wt, dA, dc, evs⟩ := x
  dsimp only at *
  obtain ⟨X, hX⟩ : ∃ X, w.heap.size = X := ⟨_, rfl⟩
  obtain ⟨w0, hw0⟩ : ∃ w0, w.alloc (.cells #[.int .i64 th, .int .u8 kd, .int .i64 bg, .int .i64 en, .int .i64 ck, .int .i64 pl, .bool wt, .slice dA evs.length dc] 74 (0, 0)) = w0 := ⟨_, rfl⟩
  obtain ⟨w1, hw1⟩ : ∃ w1, w0.alloc (.cells #[.int .i64 0, .int .u8 0, .int .i64 0, .int .i64 0, .int .i64 0, .int .i64 0, .bool false, .slice none 0 0] 74 (0, 0)) = w1 := ⟨_, rfl⟩
  obtain ⟨Y, hY⟩ : ∃ Y, w0.heap.size = Y := ⟨_, rfl⟩
  have hb0 : Below w.heap.size w w0 := by rw [← hw0]; exact (Below.refl _ _).alloc (Nat.le_refl _) _
  have hb1 : Below w0.heap.size w0 w1 := by rw [← hw1]; exact (Below.refl _ _).alloc (Nat.le_refl _) _
  have HB1 : Hid (Below w.heap.size w w1) := Lib.hid (hb0.trans (hb1.mono hb0.size))
  have hXl : X < w0.heap.size := by rw [← hw0, ← hX]; simp
  have hYl : Y < w1.heap.size := by rw [← hw1, ← hY]; simp
  have hXY : X < Y := by omega
  have hXl1 : X < w1.heap.size := by omega
  have ax : AttAt w1 X 0 ⟨th, kd, bg, en, ck, pl, wt, dA, dc, evs⟩ := AttAt.keep (w := w0) (by rw [← hw0, ← hX]; constructor <;> simp) (fun o' => hb1.cell (p := ⟨X, o', none⟩) hXl)
  have ay : AttAt w1 Y 0 attZ := by rw [← hw1, ← hY]; constructor <;> simp [attZ]
  have fx : ∀ j, w1.frozen? ⟨X, j, none⟩ = false := fun j => (hb1.frozen (p := ⟨X, j, none⟩) hXl).trans (by rw [← hw0, ← hX]; simp)
  have fy : ∀ j, w1.frozen? ⟨Y, j, none⟩ = false := fun j => by rw [← hw1, ← hY]; simp
  have HD := Lib.hid (fun W (h : Below w1.heap.size w1 W) => (⟨ax.keep fun o' => h.cell (p := ⟨X, o', none⟩) hXl1, ay.keep fun o' => h.cell (p := ⟨Y, o', none⟩) hYl, fun j => (h.frozen (p := ⟨X, j, none⟩) hXl1).trans (fx j), fun j => (h.frozen (p := ⟨Y, j, none⟩) hYl).trans (fy j)⟩ :
    AttAt W X 0 ⟨th, kd, bg, en, ck, pl, wt, dA, dc, evs⟩ ∧ AttAt W Y 0 attZ ∧ (∀ j, W.frozen? ⟨X, j, none⟩ = false) ∧ ∀ j, W.frozen? ⟨Y, j, none⟩ = false))
  have HC := Lib.hid (twinEvs_any dA dc evs B w1 (hT.keep (HB1.out.mono hBw) (Nat.le_refl _)) (Nat.le_trans hBw HB1.out.size) hn)
  have x7 := ax.c7
  rw [Nat.zero_add] at x7
  dsimp only at x7
  have HX := Lib.hid hX
  have hYx : X ≤ Y := by omega
  have hYb : w.heap.size ≤ Y := by omega
  clear ax ay fx fy hb0 hb1 hT hBw
  go_enter Tryz.func21, Tryz.ntmps21
  go_wp2_with fail
  clear hw0 hw1 hX hY x7
  refine HC.out.mono ?_
  rintro e w2 ⟨rfl, hown, hb2⟩
  obtain ⟨⟨x0, x1, x2, x3, x4, x5, x6, x7⟩, ⟨y0, y1, y2, y3, y4, y5, y6, y7⟩, fx, fy⟩ := HD.out _ hb2
  simp only [Nat.zero_add, attZ] at x0 x1 x2 x3 x4 x5 x6 x7 y0 y1 y2 y3 y4 y5 y6 y7
  have f7 := fx 7
  have g0 := fy 0
  have g1 := fy 1
  have g2 := fy 2
  have g3 := fy 3
  have g4 := fy 4
  have g5 := fy 5
  have g6 := fy 6
  have g7 := fy 7
  obtain ⟨b, hbn⟩ : ∃ b, w1.heap.size = b := ⟨_, rfl⟩
  rw [hbn] at hown ⊢
  have HEV := Lib.hid (fun (W : World) (h : ∀ o, W.cell? ⟨b, o, none⟩ = w2.cell? ⟨b, o, none⟩) k e he => (evs_own hown k e he).keep h)
  have HBB : Hid (w.heap.size ≤ b ∧ X ≠ b ∧ Y ≠ b ∧ b < w2.heap.size) := Lib.hid ⟨by have := HB1.out.size; omega, by omega, by omega, by
    rcases hown.2 with ⟨h, -⟩ | ⟨g', cap', cur, h, -, hbk, -⟩
    · cases h
    · injection h with h; injection h with h; injection h with h; subst h
      exact (Array.getElem?_eq_some_iff.1 hbk).1⟩
  have HB2 : Hid (Below w.heap.size w w2) := Lib.hid (HB1.out.trans (hb2.mono HB1.out.size))
  have hne : X ≠ Y := by omega
  have hne2 : Y ≠ X := by omega
  clear hown hb2 fx fy HC HD hbn
  go_wp2_with fail
  refine bodyPost_ret (v := .agg #[.int .i64 th, .int .u8 kd, .int .i64 bg, .int .i64 en, .int .i64 ck, .int .i64 pl, .bool wt, .slice (some ⟨b, 0, none⟩) evs.length (evs.length + 2)]) (by simp [results, Tryz.results21, go_sem, hne, hne2, y0, y1, y2, y3, y4, y5, y6, y7]) rfl ?_
  obtain ⟨b1, b2, b3, b4⟩ := HBB.out
  refine ⟨b, rfl, fun g hg => ⟨b, rfl, rfl, by omega, by simpa using b4, fun k e he => HEV.out _ (fun o => ?_) k e he⟩, ?_⟩
  · iterate 8 refine (World.cell?_setCell_other _ _ _ _ (fun e => b3 (congrArg Addr.block e))).trans ?_
    exact World.cell?_setCell_other _ _ _ _ (fun e => b2 (congrArg Addr.block e))
  · exact (((((((((HB2.out.setCell (p := ⟨X, 7, none⟩) (by have := HX.out; show _ ≤ X; omega) _).setCell (p := ⟨Y, 0, none⟩) hYb _).setCell (p := ⟨Y, 1, none⟩) hYb _).setCell (p := ⟨Y, 2, none⟩) hYb _).setCell (p := ⟨Y, 3, none⟩) hYb _).setCell (p := ⟨Y, 4, none⟩) hYb _).setCell (p := ⟨Y, 5, none⟩) hYb _).setCell (p := ⟨Y, 6, none⟩) hYb _).setCell (p := ⟨Y, 7, none⟩) hYb _)
end Go.Proofs.YtjaegddnikkibaaGreatDoor
namespace Go.Proofs.YtjaegddnikkibaaGreatDoor
open Go.RowKit Go.Sort

set_option maxHeartbeats 4000000 in
set_option maxRecDepth 100000 in
theorem twinAtts_any (A : Option Addr) (c : Nat) (l : List Att) (B : Nat) (w : World) (ha : AttsAt w B A l) (hB : B ≤ w.heap.size) (hn : l.length ≤ 1000000) (hlen : ∀ x ∈ l, x.evs.length ≤ 1000000) :
    Calls Tryz.prog 6 #[.slice A l.length c] w fun e w' => e = .returned (.slice (some ⟨w.heap.size, 0, none⟩) l.length (l.length + 2)) ∧
      (∃ l', l'.map core = l.map core ∧ Twins w' w.heap.size l') ∧ Below w.heap.size w w' := by
  have HA := Lib.hid (fun W (h : Below w.heap.size w W) => ha.keep (h.mono hB) hB)
  have HL := Lib.hid hlen
  obtain ⟨i0, hi0, hz0, hz1, hz2⟩ := info_parts attInfo
  have hmk0 := run_make (P := Tryz.prog) w 22 74 i0 _ Tryz.underlying22 hi0 hz0 .i64 .i64 (l.length : Int) ((l.length : Int) + 2) (by omega) (by omega) (by rw [hz2]; omega) (by omega)
  rw [show ((l.length : Int) + 2).toNat = l.length + 2 by omega, Int.toNat_natCast, hz1] at hmk0
  obtain ⟨cs, hcs, hsz⟩ : ∃ cs, madeCells (Value.cells (.agg #[.int .i64 0, .int .u8 0, .int .i64 0, .int .i64 0, .int .i64 0, .int .i64 0, .bool false, .slice none 0 0])) ((l.length + 2) * 8) = cs ∧ cs.size = (l.length + 2) * 8 := ⟨_, rfl, size_madeCells _ _⟩
  rw [hcs] at hmk0
  clear hcs
  have HO0 := Lib.hid (own_begin w cs 74 8 (l.length + 2) (by simp only [maxLen]; omega) hsz)
  have HB0 : Hid (Below w.heap.size w (w.alloc (.cells cs 74))) := Lib.hid ((Below.refl w.heap.size w).alloc (Nat.le_refl _) _)
  have HM0 : Hid (([] : List Att).map core = (l.take 0).map core) := Lib.hid rfl
  have HT0 : Hid (∀ x ∈ ([] : List Att), TwEv (w.alloc (.cells cs 74)) w.heap.size x) := Lib.hid (fun x hx => by cases hx)
  obtain ⟨n, hN⟩ : ∃ n, n = l.length := ⟨_, rfl⟩
  have HN := Lib.hid hN
  rw [← hN] at hmk0 HO0 hn ⊢
  clear hi0 hz0 hz1 hz2 hsz ha hlen hN
  go_enter Tryz.func6, Tryz.ntmps6
  go_wp2_with fail
  go_loopw [15] (fun i wr => ∃ (k : Nat) (l' : List Att), i = .int .i64 k ∧ k ≤ n ∧ l'.length = k ∧ Hid (l'.map core = (l.take k).map core) ∧ Hid (wr.ownsRow w.heap.size 74 8 (.slice (some ⟨w.heap.size, 0, none⟩) k (n + 2)) k (l'.flatMap Att.cells)) ∧ Hid (∀ x ∈ l', TwEv wr w.heap.size x) ∧ Hid (Below w.heap.size w wr)) (fun i _ => n - (intOf i).toNat)
  case atStart => exact ⟨0, [], rfl, Nat.zero_le _, rfl, HM0, HO0, HT0, HB0⟩
  case round =>
    clear HM0 HO0 HT0 HB0 hmk0
    obtain ⟨k, l', rfl, hk, hl', hM, hO, hT, hW⟩ := hrel
    by_cases hlt : k < n
    · have hltl : k < l.length := by have := HN.out; omega
      obtain ⟨b, off, rfl, -, hc⟩ := (HA.out _ hW.out).row (by rintro rfl; simp at hltl)
      obtain ⟨c0, c1, c2, c3, c4, c5, c6, c7⟩ := hc k _ (List.getElem?_eq_getElem hltl)
      have hC := Lib.hid (twinAtt_any l[k] w.heap.size wr ((HA.out _ hW.out).evs _ (List.getElem_mem hltl)) hW.out.size (HL.out _ (List.getElem_mem hltl)))
      have hM2 : Hid (∀ y, core y = core l[k] → (l' ++ [y]).map core = (l.take (k + 1)).map core) := Lib.hid (fun y hy => by rw [List.take_succ_eq_append_getElem hltl, List.map_append, List.map_append, hM.out]; simp [hy])
      have q1 : (k : Int) < (n : Int) := by omega
      have q2 : (0 : Int) ≤ (k : Int) := Int.natCast_nonneg _
      have q3 : (k : Int) < (l.length : Int) := by omega
      have hgl : w.heap.size < wr.heap.size := by
        rcases hO.out.2 with ⟨h, -⟩ | ⟨g', cap', cur, h, -, hbk, -⟩
        · cases h
        · injection h with h; injection h with h; injection h with h; rw [h]
          exact (Array.getElem?_eq_some_iff.1 hbk).1
      clear hc hM
      generalize l[k] = x at *
      obtain ⟨th, kd, bg, en, ck, pl, wt, dA, dc, evs⟩ := x
      dsimp only at c0 c1 c2 c3 c4 c5 c6 c7 hC
      go_wp2_with fail
      clear c0 c1 c2 c3 c4 c5 c6 c7
      refine hC.out.mono ?_
      rintro e w2 ⟨b2, rfl, htw, hb2⟩
      have hTW := Lib.hid (htw w.heap.size hgl)
      have hO2 := Lib.hid (own_belowI hO.out hb2)
      have hT2 : Hid (∀ x ∈ l', TwEv w2 w.heap.size x) := Lib.hid (fun x hx => (hT.out x hx).below hb2)
      have hW2 : Hid (Below w.heap.size w w2) := Lib.hid (hW.out.trans (hb2.mono hW.out.size))
      clear htw hb2 hO hT hW hC hgl
      obtain ⟨hroom, hfz⟩ := own_rooms (o := k * 8) hO2.out (by omega)
      obtain ⟨u0, k0⟩ := hroom 0 (by decide)
      obtain ⟨u1, k1⟩ := hroom 1 (by decide)
      obtain ⟨u2, k2⟩ := hroom 2 (by decide)
      obtain ⟨u3, k3⟩ := hroom 3 (by decide)
      obtain ⟨u4, k4⟩ := hroom 4 (by decide)
      obtain ⟨u5, k5⟩ := hroom 5 (by decide)
      obtain ⟨u6, k6⟩ := hroom 6 (by decide)
      obtain ⟨u7, k7⟩ := hroom 7 (by decide)
      rw [Nat.add_zero] at k0
      have z0 := hfz (k * 8)
      have z1 := hfz (k * 8 + 1)
      have z2 := hfz (k * 8 + 2)
      have z3 := hfz (k * 8 + 3)
      have z4 := hfz (k * 8 + 4)
      have z5 := hfz (k * 8 + 5)
      have z6 := hfz (k * 8 + 6)
      have z7 := hfz (k * 8 + 7)
      clear hroom hfz
      obtain ⟨us, hus⟩ : ∃ us : List Value, us = [.int .i64 th, .int .u8 kd, .int .i64 bg, .int .i64 en, .int .i64 ck, .int .i64 pl, .bool wt, .slice (some ⟨b2, 0, none⟩) evs.length (evs.length + 2)] := ⟨_, rfl⟩
      have hO3 := Lib.hid (own_fill8 hO2.out (by omega) (.int .i64 th) (.int .u8 kd) (.int .i64 bg) (.int .i64 en) (.int .i64 ck) (.int .i64 pl) (.bool wt) (.slice (some ⟨b2, 0, none⟩) evs.length (evs.length + 2)))
      have hW3 := Lib.hid (putAll_below (g := w.heap.size) (Nat.le_refl _) us (k * 8) _ hW2.out)
      have hT3 : Hid (∀ x ∈ l' ++ [(⟨th, kd, bg, en, ck, pl, wt, some ⟨b2, 0, none⟩, evs.length + 2, evs⟩ : Att)], TwEv (putAll w2 w.heap.size (k * 8) us) w.heap.size x) := Lib.hid (fun x hx => by
        rcases List.mem_append.1 hx with hx | hx
        · exact (hT2.out x hx).put us (k * 8)
        · rw [List.mem_singleton.1 hx]; exact hTW.out.put us (k * 8))
      rw [hus] at hW3 hT3
      simp only [putAll, Nat.add_assoc, Nat.reduceAdd] at hW3 hT3
      clear hus hT2 hTW hO2 hW2
      have hM3 := Lib.hid (hM2.out ⟨th, kd, bg, en, ck, pl, wt, some ⟨b2, 0, none⟩, evs.length + 2, evs⟩ rfl)
      clear hM2
      go_wp2_with fail
      clear k0 k1 k2 k3 k4 k5 k6 k7 z0 z1 z2 z3 z4 z5 z6 z7
      go_roundw
      case rel => exact ⟨k + 1, l' ++ [⟨th, kd, bg, en, ck, pl, wt, some ⟨b2, 0, none⟩, evs.length + 2, evs⟩], by go_num, by omega, by simp [hl'], hM3, Lib.hid (by rw [List.flatMap_append]; exact hO3.out), hT3, hW3⟩
      case measure => simp [intOf]; omega
    · obtain rfl : k = n := by omega
      have hM2 : Hid (l'.map core = l.map core) := Lib.hid (by have := hM.out; rwa [HN.out, List.take_length] at this)
      clear hM
      go_wp2_with fail
      refine wp_loop_rounds 3 ?_
      rw [rounds_succ]
      go_wp2_with fail
      refine (markAtt_any _ (by omega) (by omega) _).mono ?_
      rintro e w2 ⟨rfl, hb⟩
      have HO2 := Lib.hid (own_belowI hO.out hb)
      have HB2 : Hid (Below w.heap.size w w2) := Lib.hid (hW.out.trans (hb.mono hW.out.size))
      have HT2 : Hid (∀ x ∈ l', TwEv w2 w.heap.size x) := Lib.hid (fun x hx => (hT.out x hx).below hb)
      clear hb
      obtain ⟨hroom, hfz⟩ := own_rooms (o := k * 8) HO2.out (by omega)
      obtain ⟨u0, k0⟩ := hroom 0 (by decide)
      obtain ⟨u1, k1⟩ := hroom 1 (by decide)
      obtain ⟨u2, k2⟩ := hroom 2 (by decide)
      obtain ⟨u3, k3⟩ := hroom 3 (by decide)
      obtain ⟨u4, k4⟩ := hroom 4 (by decide)
      obtain ⟨u5, k5⟩ := hroom 5 (by decide)
      obtain ⟨u6, k6⟩ := hroom 6 (by decide)
      obtain ⟨u7, k7⟩ := hroom 7 (by decide)
      rw [Nat.add_zero] at k0
      have z0 := hfz (k * 8)
      have z1 := hfz (k * 8 + 1)
      have z2 := hfz (k * 8 + 2)
      have z3 := hfz (k * 8 + 3)
      have z4 := hfz (k * 8 + 4)
      have z5 := hfz (k * 8 + 5)
      have z6 := hfz (k * 8 + 6)
      have z7 := hfz (k * 8 + 7)
      clear hroom hfz
      have HO3 := Lib.hid (own_fill8 HO2.out (by omega) (.int .i64 (-1000 - (k : Int))) (.int .u8 0) (.int .i64 0) (.int .i64 0) (.int .i64 0) (.int .i64 0) (.bool false) (.slice none 0 0))
      have HB3 := Lib.hid (putAll_below (g := w.heap.size) (Nat.le_refl _) [.int .i64 (-1000 - (k : Int)), .int .u8 0, .int .i64 0, .int .i64 0, .int .i64 0, .int .i64 0, .bool false, .slice none 0 0] (k * 8) _ HB2.out)
      have HT3 : Hid (∀ x ∈ l', TwEv _ w.heap.size x) := Lib.hid (fun x hx => (HT2.out x hx).put [.int .i64 (-1000 - (k : Int)), .int .u8 0, .int .i64 0, .int .i64 0, .int .i64 0, .int .i64 0, .bool false, .slice none 0 0] (k * 8))
      simp only [putAll, Nat.add_assoc, Nat.reduceAdd] at HB3 HT3
      go_wp2_with fail
      clear k0 k1 k2 k3 k4 k5 k6 k7 z0 z1 z2 z3 z4 z5 z6 z7 HO2 HB2 HT2
      generalize (((((((w2.setCell ⟨w.heap.size, k * 8, none⟩ (.int .i64 (-1000 - (k : Int)))).setCell ⟨w.heap.size, k * 8 + 1, none⟩ (.int .u8 0)).setCell ⟨w.heap.size, k * 8 + 2, none⟩ (.int .i64 0)).setCell ⟨w.heap.size, k * 8 + 3, none⟩ (.int .i64 0)).setCell ⟨w.heap.size, k * 8 + 4, none⟩ (.int .i64 0)).setCell ⟨w.heap.size, k * 8 + 5, none⟩ (.int .i64 0)).setCell ⟨w.heap.size, k * 8 + 6, none⟩ (.bool false)).setCell ⟨w.heap.size, k * 8 + 7, none⟩ (.slice none 0 0) = w3 at HO3 HB3 HT3 ⊢
      rw [rounds_succ]
      go_wp2_with fail
      refine (markAtt_any _ (by omega) (by omega) _).mono ?_
      rintro e w4 ⟨rfl, hb⟩
      have HO2 := Lib.hid (own_belowI HO3.out hb)
      have HB2 : Hid (Below w.heap.size w w4) := Lib.hid (HB3.out.trans (hb.mono HB3.out.size))
      have HT2 : Hid (∀ x ∈ l', TwEv w4 w.heap.size x) := Lib.hid (fun x hx => (HT3.out x hx).below hb)
      clear hb
      obtain ⟨hroom, hfz⟩ := own_rooms (o := (k + 1) * 8) HO2.out (by omega)
      obtain ⟨u0, k0⟩ := hroom 0 (by decide)
      obtain ⟨u1, k1⟩ := hroom 1 (by decide)
      obtain ⟨u2, k2⟩ := hroom 2 (by decide)
      obtain ⟨u3, k3⟩ := hroom 3 (by decide)
      obtain ⟨u4, k4⟩ := hroom 4 (by decide)
      obtain ⟨u5, k5⟩ := hroom 5 (by decide)
      obtain ⟨u6, k6⟩ := hroom 6 (by decide)
      obtain ⟨u7, k7⟩ := hroom 7 (by decide)
      rw [Nat.add_zero] at k0
      have z0 := hfz ((k + 1) * 8)
      have z1 := hfz ((k + 1) * 8 + 1)
      have z2 := hfz ((k + 1) * 8 + 2)
      have z3 := hfz ((k + 1) * 8 + 3)
      have z4 := hfz ((k + 1) * 8 + 4)
      have z5 := hfz ((k + 1) * 8 + 5)
      have z6 := hfz ((k + 1) * 8 + 6)
      have z7 := hfz ((k + 1) * 8 + 7)
      clear hroom hfz
      have HO5 := Lib.hid (own_fill8 HO2.out (by omega) (.int .i64 (-1000 - ((k : Int) + 1))) (.int .u8 0) (.int .i64 0) (.int .i64 0) (.int .i64 0) (.int .i64 0) (.bool false) (.slice none 0 0))
      have HB5 := Lib.hid (putAll_below (g := w.heap.size) (Nat.le_refl _) [.int .i64 (-1000 - ((k : Int) + 1)), .int .u8 0, .int .i64 0, .int .i64 0, .int .i64 0, .int .i64 0, .bool false, .slice none 0 0] ((k + 1) * 8) _ HB2.out)
      have HT5 : Hid (∀ x ∈ l', TwEv _ w.heap.size x) := Lib.hid (fun x hx => (HT2.out x hx).put [.int .i64 (-1000 - ((k : Int) + 1)), .int .u8 0, .int .i64 0, .int .i64 0, .int .i64 0, .int .i64 0, .bool false, .slice none 0 0] ((k + 1) * 8))
      simp only [putAll, Nat.add_assoc, Nat.reduceAdd] at HB5 HT5
      go_wp2_with fail
      clear k0 k1 k2 k3 k4 k5 k6 k7 z0 z1 z2 z3 z4 z5 z6 z7 HO2 HB2 HT2
      generalize (((((((w4.setCell ⟨w.heap.size, (k + 1) * 8, none⟩ (.int .i64 (-1000 - ((k : Int) + 1)))).setCell ⟨w.heap.size, (k + 1) * 8 + 1, none⟩ (.int .u8 0)).setCell ⟨w.heap.size, (k + 1) * 8 + 2, none⟩ (.int .i64 0)).setCell ⟨w.heap.size, (k + 1) * 8 + 3, none⟩ (.int .i64 0)).setCell ⟨w.heap.size, (k + 1) * 8 + 4, none⟩ (.int .i64 0)).setCell ⟨w.heap.size, (k + 1) * 8 + 5, none⟩ (.int .i64 0)).setCell ⟨w.heap.size, (k + 1) * 8 + 6, none⟩ (.bool false)).setCell ⟨w.heap.size, (k + 1) * 8 + 7, none⟩ (.slice none 0 0) = w5 at HO5 HB5 HT5 ⊢
      rw [rounds_succ]
      go_wp2_with fail
      go_ret
      refine ⟨rfl, ⟨l', hM2.out, ?_, HT5.out⟩, HB5.out⟩
      have := HO5.out
      subst hl'
      rw [List.flatMap_append]
      rw [List.append_assoc] at this
      exact this
end Go.Proofs.YtjaegddnikkibaaGreatDoor
namespace Go.Proofs.YtjaegddnikkibaaGreatDoor
open Go.RowKit Go.Sort

set_option maxHeartbeats 2000000 in
set_option maxRecDepth 100000 in
theorem sameEvs_any (A1 A2 : Option Addr) (c1 c2 : Nat) (l : List Ev) (B1 B2 : Nat) (w : World) (h1 : EvsAt w B1 A1 l) (h2 : EvsAt w B2 A2 l) (hn : l.length ≤ 1000000) :
    Calls Tryz.prog 205 #[.slice A1 l.length c1, .slice A2 l.length c2] w fun e w' => e = .returned (.bool true) ∧ ∃ k, w' = w.drewN k := by
  have HR1 := Lib.hid h1
  have HR2 := Lib.hid h2
  clear h1 h2
  go_enter Tryz.func205, Tryz.ntmps205
  go_wp2_with fail
  go_loopw [13] (fun i wr => ∃ k : Nat, k ≤ l.length ∧ i = .int .i64 k ∧ Hid (∃ q, wr = w.drewN q)) (fun i _ => l.length - (intOf i).toNat)
  case atStart => exact ⟨0, Nat.zero_le _, rfl, ⟨0, rfl⟩⟩
  case round =>
    obtain ⟨k, hk, rfl, hq⟩ := hrel
    obtain ⟨q, rfl⟩ := hq.out
    clear hq
    by_cases hlt : k < l.length
    · obtain ⟨g1, o1, rfl, -, hc1⟩ := HR1.out (by rintro rfl; simp at hlt)
      obtain ⟨g2, o2, rfl, -, hc2⟩ := HR2.out (by rintro rfl; simp at hlt)
      have ht1 := hc1 k _ (List.getElem?_eq_getElem hlt)
      have ht2 := hc2 k _ (List.getElem?_eq_getElem hlt)
      clear hc1 hc2
      generalize l[k] = t at *
      obtain ⟨a0, a1, a2, a3⟩ := ht1
      obtain ⟨b0, b1, b2, b3⟩ := ht2
      have p1 : (0 : Int) ≤ (k : Int) := Int.natCast_nonneg _
      have p2 : (k : Int) < (l.length : Int) := by omega
      go_wp2_with fail
      go_quiet (fail)
      go_wp2_with fail
      go_roundw
      case rel => exact ⟨k + 1, by omega, by go_num, ⟨_, rfl⟩⟩
      case measure => simp [intOf]; omega
    · go_wp2_with fail
      go_ret
      exact ⟨rfl, q, rfl⟩

abbrev IsS (w0 : World) (X : Nat) (n : Int) (W : World) : Prop :=
  Below w0.heap.size w0 W ∧ W.cell? ⟨X, 0, none⟩ = some (.int .i64 (-1000 - n)) ∧ W.cell? ⟨X, 1, none⟩ = some (.int .u8 0) ∧ W.cell? ⟨X, 2, none⟩ = some (.int .i64 0) ∧ W.cell? ⟨X, 3, none⟩ = some (.int .i64 0)
set_option maxHeartbeats 1000000 in
set_option maxRecDepth 100000 in
theorem isEv_any (n : Int) (h1 : 0 ≤ n) (h2 : n ≤ 100000000000) (w : World) :
    Calls Tryz.prog 167 #[.agg #[.int .i64 (-1000 - n), .int .u8 0, .int .i64 0, .int .i64 0], .int .i64 n] w fun e w' => e = .returned (.bool true) ∧ Below w.heap.size w w' := by
  obtain ⟨X, hX⟩ : ∃ X, w.heap.size = X := ⟨_, rfl⟩
  obtain ⟨w0, hw0⟩ : ∃ w0, w.alloc (.cells #[.int .i64 (-1000 - n), .int .u8 0, .int .i64 0, .int .i64 0] 101 (0, 0)) = w0 := ⟨_, rfl⟩
  have HB0 : Hid (Below w.heap.size w w0) := Lib.hid (by rw [← hw0]; exact (Below.refl _ _).alloc (Nat.le_refl _) _)
  have d0 : w0.cell? ⟨X, 0, none⟩ = some (.int .i64 (-1000 - n)) := by rw [← hw0, ← hX]; simp
  have d1 : w0.cell? ⟨X, 1, none⟩ = some (.int .u8 0) := by rw [← hw0, ← hX]; simp
  have d2 : w0.cell? ⟨X, 2, none⟩ = some (.int .i64 0) := by rw [← hw0, ← hX]; simp
  have d3 : w0.cell? ⟨X, 3, none⟩ = some (.int .i64 0) := by rw [← hw0, ← hX]; simp
  have hXl : X < w0.heap.size := by rw [← hw0, ← hX]; simp
  have HS := Lib.hid (fun W (h : Below w0.heap.size w0 W) => (⟨h, (h.cell (p := ⟨X, 0, none⟩) hXl).trans d0, (h.cell (p := ⟨X, 1, none⟩) hXl).trans d1, (h.cell (p := ⟨X, 2, none⟩) hXl).trans d2, (h.cell (p := ⟨X, 3, none⟩) hXl).trans d3⟩ : IsS w0 X n W))
  have HE := Lib.hid (fun W (h : Below w0.heap.size w0 W) => HB0.out.trans (h.mono HB0.out.size))
  clear d0 d1 d2 d3 hXl
  go_enter Tryz.func167, Tryz.ntmps167
  go_wp2_with fail
  clear hw0 hX
  refine wp_region_L (l := 4) (S := (IsS w0 X n)) (by kernel_rfl) ?_ (fun hHeld => ?_)
  · ((try dsimp only); (exact HS.out _ (Below.refl _ _).drew))
  refine wpAnyL_take (i := 0) (oi := _) (v := ?v1) rfl (by kernel_rfl) (fun _ _ _ h => h) (by assumption) (Or.inl ⟨by kernel_rfl, ?y1⟩) ?r1
  case y1 => (intro w hSw; (try dsimp only at hSw); go_simp; all_goals with_reducible rfl)
  try simp only [Act.put, List.setIfInBounds_toArray, List.set_cons_zero, List.set_cons_succ]
  refine wpAnyL_take (i := 1) (oi := _) (v := ?v2) rfl (by kernel_rfl) (fun _ _ _ h => h) (by assumption) (Or.inl ⟨by kernel_rfl, ?y2⟩) ?r2
  case y2 => (intro w hSw; (try dsimp only at hSw); go_simp; all_goals with_reducible rfl)
  try simp only [Act.put, List.setIfInBounds_toArray, List.set_cons_zero, List.set_cons_succ]
  refine wpAnyL_step (j := 2) (o := _) (by kernel_rfl) rfl (fun K hK => ?_)
  (go_simp; go_at_call 142; refine (markEv_any n h1 h2 _).mono ?_; rintro e w4 ⟨rfl, hb4⟩)
  refine hK _ _ ?_ (fun hHeld => ?_)
  · ((try dsimp only); (exact HS.out _ (hHeld.1.trans (hb4.mono hHeld.1.size))))
  clear hK K
  try simp only [Act.put, List.setIfInBounds_toArray, List.set_cons_zero, List.set_cons_succ]
  refine wpAnyL_take (i := 3) (oi := _) (v := ?v4) rfl (by kernel_rfl) (fun _ _ _ h => h) (by assumption) (Or.inl ⟨by kernel_rfl, ?y4⟩) ?r4
  case y4 => (intro w hSw; (try dsimp only at hSw); go_simp; all_goals with_reducible rfl)
  try simp only [Act.put, List.setIfInBounds_toArray, List.set_cons_zero, List.set_cons_succ]
  refine wpAnyL_last (j := 4) (o := _) (by kernel_rfl) rfl (by rfl) (by kernel_rfl) (fun K hK => ?_)
  go_simp
  (refine hK _ _ ?_; clear hK K)
  try simp only [Act.put, List.setIfInBounds_toArray, List.set_cons_zero, List.set_cons_succ]
  have hE2 := Lib.hid (HE.out _ hHeld.1)
  clear hHeld
  go_wp2_with fail
  go_ret
  exact ⟨rfl, hE2.out⟩

set_option maxHeartbeats 2000000 in
set_option maxRecDepth 100000 in
theorem leftEvs_any (b : Nat) (A : Option Addr) (c : Nat) (l : List Ev) (B : Nat) (w : World) (h1 : b < w.heap.size) (h2 : ∀ k e, (l ++ marksE l.length)[k]? = some e → EvAt w b (k * 4) e) (h3 : EvsAt w B A l) (hB : B ≤ w.heap.size) (hn : l.length ≤ 1000000) :
    Calls Tryz.prog 186 #[.slice (some ⟨b, 0, none⟩) l.length (l.length + 2), .slice A l.length c] w fun e w' => e = .returned (.bool true) ∧ Below w.heap.size w w' := by
  have HM0 := Lib.hid (fun W (hb : Below w.heap.size w W) (k : Nat) e (he : (l ++ marksE l.length)[l.length + k]? = some e) => (h2 (l.length + k) e he).keep (fun o' => hb.cell (p := ⟨b, o', none⟩) h1))
  have HM : Hid (∀ W, Below w.heap.size w W → ∀ (k : Nat) e, (marksE l.length)[k]? = some e → EvAt W b ((l.length + k) * 4) e) := Lib.hid (fun W hb k e he => HM0.out W hb k e (by rw [List.getElem?_append_right (by omega), Nat.add_sub_cancel_left]; exact he))
  have HS := Lib.hid (fun W (hb : Below w.heap.size w W) => sameEvs_any (some ⟨b, 0, none⟩) A (l.length + 2) c l w.heap.size B W (fun _ => ⟨b, 0, rfl, h1, fun k e he => by
    rw [Nat.zero_add]
    exact (h2 k e (by rw [List.getElem?_append_left (List.getElem?_eq_some_iff.1 he).1]; exact he)).keep (fun o' => hb.cell (p := ⟨b, o', none⟩) h1)⟩) (h3.keep (hb.mono hB) (Nat.le_refl _)) hn)
  clear h2 h3 HM0
  generalize l.length = n at *
  go_enter Tryz.func186, Tryz.ntmps186
  go_wp2_with fail
  refine wp_loop_rounds 3 ?_
  rw [rounds_succ]
  obtain ⟨e0, e1, e2, e3⟩ := HM.out w (Below.refl w.heap.size w) 0 _ rfl
  simp only [markE, Int.natCast_add, Int.natCast_one, Nat.add_zero] at e0 e1 e2 e3
  go_wp2_with fail
  refine (isEv_any (n : Int) (by omega) (by omega) _).mono ?_
  rintro e w1 ⟨rfl, hbx⟩
  have hb1 : Below w.heap.size w w1 := ((Below.refl w.heap.size w)).trans (hbx.mono ((Below.refl w.heap.size w)).size)
  clear hbx e0 e1 e2 e3
  go_wp2_with fail
  rw [rounds_succ]
  obtain ⟨e0, e1, e2, e3⟩ := HM.out w1 hb1 1 _ rfl
  simp only [markE, Int.natCast_add, Int.natCast_one, Nat.add_zero] at e0 e1 e2 e3
  go_wp2_with fail
  refine (isEv_any ((n : Int) + 1) (by omega) (by omega) _).mono ?_
  rintro e w2 ⟨rfl, hbx⟩
  have hb2 : Below w.heap.size w w2 := (hb1).trans (hbx.mono (hb1).size)
  clear hbx e0 e1 e2 e3
  go_wp2_with fail
  rw [rounds_succ]
  go_wp2_with fail
  refine (HS.out _ hb2).mono ?_
  rintro e w3 ⟨rfl, q, rfl⟩
  go_wp2_with fail
  go_ret
  exact ⟨rfl, below_drewN hb2 q⟩
end Go.Proofs.YtjaegddnikkibaaGreatDoor
namespace Go.Proofs.YtjaegddnikkibaaGreatDoor
open Go.RowKit Go.Sort

set_option maxHeartbeats 1000000 in
set_option maxRecDepth 100000 in
theorem isAtt_any (n : Int) (h1 : 0 ≤ n) (h2 : n ≤ 100000000000) (w : World) :
    Calls Tryz.prog 120 #[.agg #[.int .i64 (-1000 - n), .int .u8 0, .int .i64 0, .int .i64 0, .int .i64 0, .int .i64 0, .bool false, .slice none 0 0], .int .i64 n] w fun e w' => e = .returned (.bool true) ∧ Below w.heap.size w w' := by
  obtain ⟨X, hX⟩ : ∃ X, w.heap.size = X := ⟨_, rfl⟩
  obtain ⟨w0, hw0⟩ : ∃ w0, w.alloc (.cells #[.int .i64 (-1000 - n), .int .u8 0, .int .i64 0, .int .i64 0, .int .i64 0, .int .i64 0, .bool false, .slice none 0 0] 74 (0, 0)) = w0 := ⟨_, rfl⟩
  have HB0 : Hid (Below w.heap.size w w0) := Lib.hid (by rw [← hw0]; exact (Below.refl _ _).alloc (Nat.le_refl _) _)
  have d0 : w0.cell? ⟨X, 0, none⟩ = some (.int .i64 (-1000 - n)) := by rw [← hw0, ← hX]; simp
  have d7 : w0.cell? ⟨X, 7, none⟩ = some (.slice none 0 0) := by rw [← hw0, ← hX]; simp
  go_enter Tryz.func120, Tryz.ntmps120
  go_wp2_with fail
  go_ret
  exact ⟨rfl, HB0.out⟩

set_option maxHeartbeats 2000000 in
set_option maxRecDepth 100000 in
theorem leftAtt_any (x : Att) (b g : Nat) (B : Nat) (w : World) (h1 : TwEv w g { x with dA := some ⟨b, 0, none⟩, dc := x.evs.length + 2 }) (h3 : EvsAt w B x.dA x.evs) (hB : B ≤ w.heap.size) (hn : x.evs.length ≤ 1000000) :
    Calls Tryz.prog 119 #[.agg #[.int .i64 x.th, .int .u8 x.kd, .int .i64 x.bg, .int .i64 x.en, .int .i64 x.ck, .int .i64 x.pl, .bool x.wr, .slice (some ⟨b, 0, none⟩) x.evs.length (x.evs.length + 2)], .agg #[.int .i64 x.th, .int .u8 x.kd, .int .i64 x.bg, .int .i64 x.en, .int .i64 x.ck, .int .i64 x.pl, .bool x.wr, .slice x.dA x.evs.length x.dc]] w fun e w' => e = .returned (.bool true) ∧ Below w.heap.size w w' := by
  obtain ⟨th, kd, bg, en, ck, pl, wt, dA, dc, evs⟩ := x
  dsimp only at *
  obtain ⟨X, hX⟩ : ∃ X, w.heap.size = X := ⟨_, rfl⟩
  obtain ⟨w0, hw0⟩ : ∃ w0, w.alloc (.cells #[.int .i64 th, .int .u8 kd, .int .i64 bg, .int .i64 en, .int .i64 ck, .int .i64 pl, .bool wt, .slice (some ⟨b, 0, none⟩) evs.length (evs.length + 2)] 74 (0, 0)) = w0 := ⟨_, rfl⟩
  obtain ⟨w1, hw1⟩ : ∃ w1, w0.alloc (.cells #[.int .i64 th, .int .u8 kd, .int .i64 bg, .int .i64 en, .int .i64 ck, .int .i64 pl, .bool wt, .slice dA evs.length dc] 74 (0, 0)) = w1 := ⟨_, rfl⟩
  obtain ⟨Y, hY⟩ : ∃ Y, w0.heap.size = Y := ⟨_, rfl⟩
  have hb0 : Below w.heap.size w w0 := by rw [← hw0]; exact (Below.refl _ _).alloc (Nat.le_refl _) _
  have hb1 : Below w0.heap.size w0 w1 := by rw [← hw1]; exact (Below.refl _ _).alloc (Nat.le_refl _) _
  have HB1 : Hid (Below w.heap.size w w1) := Lib.hid (hb0.trans (hb1.mono hb0.size))
  have hXl : X < w0.heap.size := by rw [← hw0, ← hX]; simp
  have ax : AttAt w1 X 0 ⟨th, kd, bg, en, ck, pl, wt, some ⟨b, 0, none⟩, evs.length + 2, evs⟩ := AttAt.keep (w := w0) (by rw [← hw0, ← hX]; constructor <;> simp) (fun o' => hb1.cell (p := ⟨X, o', none⟩) hXl)
  have ay : AttAt w1 Y 0 ⟨th, kd, bg, en, ck, pl, wt, dA, dc, evs⟩ := by rw [← hw1, ← hY]; constructor <;> simp
  obtain ⟨b', hb', -, -, hbl, hbe⟩ := h1.below HB1.out
  injection hb' with hb'
  injection hb' with hb'
  subst hb'
  have HC := Lib.hid (leftEvs_any b dA dc evs B w1 hbl hbe (h3.keep (HB1.out.mono hB) (Nat.le_refl _)) (Nat.le_trans hB HB1.out.size) hn)
  obtain ⟨x0, x1, x2, x3, x4, x5, x6, x7⟩ := ax
  obtain ⟨y0, y1, y2, y3, y4, y5, y6, y7⟩ := ay
  simp only [Nat.zero_add] at x0 x1 x2 x3 x4 x5 x6 x7 y0 y1 y2 y3 y4 y5 y6 y7
  clear hb0 hb1 hXl hbl hbe h1 h3
  go_enter Tryz.func119, Tryz.ntmps119
  go_wp2_with fail
  clear hw0 hw1 hX hY
  refine HC.out.mono ?_
  rintro e w2 ⟨rfl, hb2⟩
  have hE := Lib.hid (HB1.out.trans (hb2.mono HB1.out.size))
  clear hb2
  go_wp2_with fail
  go_ret
  exact ⟨rfl, hE.out⟩

abbrev LeS (w0 : World) (g o b o2 : Nat) (th kd bg en ck pl : Int) (wt : Bool) (dv dv2 : Value) (W : World) : Prop :=
  Below w0.heap.size w0 W ∧ W.cell? ⟨g, o, none⟩ = some (.int .i64 th) ∧ W.cell? ⟨g, o + 1, none⟩ = some (.int .u8 kd) ∧ W.cell? ⟨g, o + 2, none⟩ = some (.int .i64 bg) ∧ W.cell? ⟨g, o + 3, none⟩ = some (.int .i64 en) ∧ W.cell? ⟨g, o + 4, none⟩ = some (.int .i64 ck) ∧ W.cell? ⟨g, o + 5, none⟩ = some (.int .i64 pl) ∧ W.cell? ⟨g, o + 6, none⟩ = some (.bool wt) ∧ W.cell? ⟨g, o + 7, none⟩ = some dv ∧
    W.cell? ⟨b, o2, none⟩ = some (.int .i64 th) ∧ W.cell? ⟨b, o2 + 1, none⟩ = some (.int .u8 kd) ∧ W.cell? ⟨b, o2 + 2, none⟩ = some (.int .i64 bg) ∧ W.cell? ⟨b, o2 + 3, none⟩ = some (.int .i64 en) ∧ W.cell? ⟨b, o2 + 4, none⟩ = some (.int .i64 ck) ∧ W.cell? ⟨b, o2 + 5, none⟩ = some (.int .i64 pl) ∧ W.cell? ⟨b, o2 + 6, none⟩ = some (.bool wt) ∧ W.cell? ⟨b, o2 + 7, none⟩ = some dv2
theorem leS_of {w0 W : World} {g o b o2 : Nat} {x y : Att} (hb : Below w0.heap.size w0 W) (h : AttAt W g o x) (h2 : AttAt W b o2 y) (he : core x = core y) :
    LeS w0 g o b o2 y.th y.kd y.bg y.en y.ck y.pl y.wr (.slice x.dA x.evs.length x.dc) (.slice y.dA y.evs.length y.dc) W := by
  obtain ⟨a0, a1, a2, a3, a4, a5, a6, a7, a8, a9⟩ := x
  obtain ⟨b0, b1, b2, b3, b4, b5, b6, b7, b8, b9⟩ := y
  simp only [core, Att.mk.injEq] at he
  obtain ⟨rfl, rfl, rfl, rfl, rfl, rfl, rfl, -, -, rfl⟩ := he
  exact ⟨hb, h.c0, h.c1, h.c2, h.c3, h.c4, h.c5, h.c6, h.c7, h2.c0, h2.c1, h2.c2, h2.c3, h2.c4, h2.c5, h2.c6, h2.c7⟩

set_option maxHeartbeats 4000000 in
set_option maxRecDepth 100000 in
theorem leftAtts_any (l l' : List Att) (g : Nat) (A : Option Addr) (c B : Nat) (w : World) (ht : Twins w g l') (hl : l'.map core = l.map core) (ha : AttsAt w B A l) (hB : B ≤ w.heap.size) (hn : l.length ≤ 1000000) (hlen : ∀ x ∈ l, x.evs.length ≤ 1000000) :
    Calls Tryz.prog 18 #[.slice (some ⟨g, 0, none⟩) l.length (l.length + 2), .slice A l.length c] w fun e w' => e = .returned (.bool true) ∧ Below w.heap.size w w' := by
  have hll := core_len hl
  have HT := Lib.hid (fun W (h : Below w.heap.size w W) => ht.below h)
  have HA := Lib.hid (fun W (h : Below w.heap.size w W) => ha.keep (h.mono hB) hB)
  have HM : Hid (∀ W, Below w.heap.size w W → ∀ (k : Nat) x, [markA l.length, markA (l.length + 1)][k]? = some x → AttAt W g ((l.length + k) * 8) x) := Lib.hid (fun W hb k x hx => (HT.out W hb).at (l.length + k) x (by rw [hll, List.getElem?_append_right (by omega), hll, Nat.add_sub_cancel_left]; exact hx))
  have HX : Hid (∀ k (hk : k < l.length), ∃ b, l'[k]? = some { l[k] with dA := some ⟨b, 0, none⟩, dc := l[k].evs.length + 2 }) := Lib.hid (fun k hk => by
    have hk' : k < l'.length := by omega
    have hc := core_get hl hk' hk
    obtain ⟨b, h1, h2, -⟩ := ht.evs _ (List.getElem_mem hk')
    refine ⟨b, ?_⟩
    rw [List.getElem?_eq_getElem hk']
    generalize l'[k] = x at *
    generalize l[k] = y at *
    obtain ⟨a0, a1, a2, a3, a4, a5, a6, a7, a8, a9⟩ := x
    obtain ⟨b0, b1, b2, b3, b4, b5, b6, b7, b8, b9⟩ := y
    simp only [core, Att.mk.injEq] at hc
    obtain ⟨rfl, rfl, rfl, rfl, rfl, rfl, rfl, -, -, rfl⟩ := hc
    dsimp only at h1 h2
    rw [h1, h2])
  have HL := Lib.hid hlen
  clear ht hl ha hll hlen
  go_enter Tryz.func18, Tryz.ntmps18
  go_wp2_with fail
  go_loopw [15] (fun i wr => ∃ k : Nat, i = .int .i64 k ∧ k ≤ l.length ∧ Hid (Below w.heap.size w wr)) (fun i _ => l.length - (intOf i).toNat)
  case atStart => exact ⟨0, rfl, Nat.zero_le _, Lib.hid (Below.refl _ _)⟩
  case round =>
    obtain ⟨k, rfl, hk, hW⟩ := hrel
    by_cases hlt : k < l.length
    · obtain ⟨b, off, rfl, -, hc⟩ := (HA.out _ hW.out).row (by rintro rfl; simp at hlt)
      obtain ⟨b2, hb2⟩ := HX.out k hlt
      have HSA := Lib.hid (fun W (h : Below wr.heap.size wr W) => (HA.out _ (hW.out.trans (h.mono hW.out.size))))
      have HCA := Lib.hid (fun W (h : Below wr.heap.size wr W) => hc k _ (List.getElem?_eq_getElem hlt) |>.keep fun o' => h.cell (p := ⟨b, o', none⟩) (show b < _ from World.block_lt_of_cell? _ ⟨b, off + k * 8, none⟩ (hc k _ (List.getElem?_eq_getElem hlt)).c0))
      have HTA := Lib.hid (fun W (h : Below wr.heap.size wr W) => (HT.out _ (hW.out.trans (h.mono hW.out.size))))
      have HTC := Lib.hid (fun W (h : Below wr.heap.size wr W) => (HTA.out W h).at k _ (by rw [List.getElem?_append_left (List.getElem?_eq_some_iff.1 hb2).1]; exact hb2))
      have HTE := Lib.hid (fun W (h : Below wr.heap.size wr W) => (HTA.out W h).evs _ (List.mem_of_getElem? hb2))
      have HAE := Lib.hid (fun W (h : Below wr.heap.size wr W) => (HSA.out W h).evs _ (List.getElem_mem hlt))
      have HZ := Lib.hid (fun W (h : Below wr.heap.size wr W) => (hW.out.trans (h.mono hW.out.size)))
      have hxl := HL.out _ (List.getElem_mem hlt)
      have q1 : (k : Int) < (l.length : Int) := by omega
      have q2 : (0 : Int) ≤ (k : Int) := Int.natCast_nonneg _
      clear hc hb2
      generalize l[k] = x at *
      obtain ⟨th, kd, bg, en, ck, pl, wt, dA, dc, evs⟩ := x
      dsimp only at *
      have HS := Lib.hid (fun W (h : Below wr.heap.size wr W) => (leS_of h (HTC.out W h) (HCA.out W h) rfl : LeS wr g (k * 8) b (off + k * 8) th kd bg en ck pl wt (.slice (some ⟨b2, 0, none⟩) evs.length (evs.length + 2)) (.slice dA evs.length dc) W))
      go_wp2_with fail
      refine wp_region_L (l := 9) (S := (LeS wr g (k * 8) b (off + k * 8) th kd bg en ck pl wt (.slice (some ⟨b2, 0, none⟩) evs.length (evs.length + 2)) (.slice dA evs.length dc))) (by kernel_rfl) ?_ (fun hHeld => ?_)
      · ((try dsimp only); (exact HS.out _ (Below.refl _ _).drew))
      refine wpAnyL_take (i := 0) (oi := _) (v := ?v6) rfl (by kernel_rfl) (fun _ _ _ h => h) (by assumption) (Or.inl ⟨by kernel_rfl, ?y6⟩) ?r6
      case y6 => (intro w hSw; (try dsimp only at hSw); go_simp; all_goals with_reducible rfl)
      try simp only [Act.put, List.setIfInBounds_toArray, List.set_cons_zero, List.set_cons_succ]
      refine wpAnyL_take (i := 1) (oi := _) (v := ?v7) rfl (by kernel_rfl) (fun _ _ _ h => h) (by assumption) (Or.inl ⟨by kernel_rfl, ?y7⟩) ?r7
      case y7 => (intro w hSw; (try dsimp only at hSw); go_simp; all_goals with_reducible rfl)
      try simp only [Act.put, List.setIfInBounds_toArray, List.set_cons_zero, List.set_cons_succ]
      refine wpAnyL_take (i := 2) (oi := _) (v := ?v8) rfl (by kernel_rfl) (fun _ _ _ h => h) (by assumption) (Or.inl ⟨by kernel_rfl, ?y8⟩) ?r8
      case y8 => (intro w hSw; (try dsimp only at hSw); go_simp; all_goals with_reducible rfl)
      try simp only [Act.put, List.setIfInBounds_toArray, List.set_cons_zero, List.set_cons_succ]
      refine wpAnyL_take (i := 3) (oi := _) (v := ?v9) rfl (by kernel_rfl) (fun _ _ _ h => h) (by assumption) (Or.inl ⟨by kernel_rfl, ?y9⟩) ?r9
      case y9 => (intro w hSw; (try dsimp only at hSw); go_simp; all_goals with_reducible rfl)
      try simp only [Act.put, List.setIfInBounds_toArray, List.set_cons_zero, List.set_cons_succ]
      refine wpAnyL_take (i := 4) (oi := _) (v := ?v10) rfl (by kernel_rfl) (fun _ _ _ h => h) (by assumption) (Or.inl ⟨by kernel_rfl, ?y10⟩) ?r10
      case y10 => (intro w hSw; (try dsimp only at hSw); go_simp; all_goals with_reducible rfl)
      try simp only [Act.put, List.setIfInBounds_toArray, List.set_cons_zero, List.set_cons_succ]
      refine wpAnyL_take (i := 5) (oi := _) (v := ?v11) rfl (by kernel_rfl) (fun _ _ _ h => h) (by assumption) (Or.inl ⟨by kernel_rfl, ?y11⟩) ?r11
      case y11 => (intro w hSw; (try dsimp only at hSw); go_simp; all_goals with_reducible rfl)
      try simp only [Act.put, List.setIfInBounds_toArray, List.set_cons_zero, List.set_cons_succ]
      refine wpAnyL_take (i := 6) (oi := _) (v := ?v12) rfl (by kernel_rfl) (fun _ _ _ h => h) (by assumption) (Or.inl ⟨by kernel_rfl, ?y12⟩) ?r12
      case y12 => (intro w hSw; (try dsimp only at hSw); go_simp; all_goals with_reducible rfl)
      try simp only [Act.put, List.setIfInBounds_toArray, List.set_cons_zero, List.set_cons_succ]
      refine wpAnyL_take (i := 7) (oi := _) (v := ?v13) rfl (by kernel_rfl) (fun _ _ _ h => h) (by assumption) (Or.inl ⟨by kernel_rfl, ?y13⟩) ?r13
      case y13 => (intro w hSw; (try dsimp only at hSw); go_simp; all_goals with_reducible rfl)
      try simp only [Act.put, List.setIfInBounds_toArray, List.set_cons_zero, List.set_cons_succ]
      refine wpAnyL_step (j := 8) (o := _) (by kernel_rfl) rfl (fun K hK => ?_)
      (go_simp; go_at_call 119; refine (leftAtt_any ⟨th, kd, bg, en, ck, pl, wt, dA, dc, evs⟩ b2 g w.heap.size _ (HTE.out _ hHeld.1) (HAE.out _ hHeld.1) (HZ.out _ hHeld.1).size hxl).mono ?_; rintro e w4 ⟨rfl, hb4⟩)
      refine hK _ _ ?_ (fun hHeld => ?_)
      · ((try dsimp only); (exact HS.out _ (hHeld.1.trans (hb4.mono hHeld.1.size))))
      clear hK K
      try simp only [Act.put, List.setIfInBounds_toArray, List.set_cons_zero, List.set_cons_succ]
      refine wpAnyL_last (j := 9) (o := _) (by kernel_rfl) rfl (by rfl) (by kernel_rfl) (fun K hK => ?_)
      go_simp
      (refine hK _ _ ?_; clear hK K)
      try simp only [Act.put, List.setIfInBounds_toArray, List.set_cons_zero, List.set_cons_succ]
      have hE2 := Lib.hid (HZ.out _ hHeld.1)
      clear hHeld
      go_wp2_with fail
      go_roundw
      case rel => exact ⟨k + 1, by go_num, by omega, hE2⟩
      case measure => simp [intOf]; omega
    · have hb0 := hW.out
      obtain rfl : k = l.length := by omega
      clear hW
      go_wp2_with fail
      refine wp_loop_rounds 3 ?_
      rw [rounds_succ]
      obtain ⟨e0, e1, e2, e3, e4, e5, e6, e7⟩ := HM.out wr hb0 0 _ rfl
      simp only [markA, Int.natCast_add, Int.natCast_one, Nat.add_zero, List.length_nil] at e0 e1 e2 e3 e4 e5 e6 e7
      go_wp2_with fail
      refine (isAtt_any (l.length : Int) (by omega) (by omega) _).mono ?_
      rintro e w1 ⟨rfl, hbx⟩
      have hb1 : Below w.heap.size w w1 := (hb0).trans (hbx.mono (hb0).size)
      clear hbx e0 e1 e2 e3 e4 e5 e6 e7
      go_wp2_with fail
      rw [rounds_succ]
      obtain ⟨e0, e1, e2, e3, e4, e5, e6, e7⟩ := HM.out w1 hb1 1 _ rfl
      simp only [markA, Int.natCast_add, Int.natCast_one, Nat.add_zero, List.length_nil] at e0 e1 e2 e3 e4 e5 e6 e7
      go_wp2_with fail
      refine (isAtt_any ((l.length : Int) + 1) (by omega) (by omega) _).mono ?_
      rintro e w2 ⟨rfl, hbx⟩
      have hb2 : Below w.heap.size w w2 := (hb1).trans (hbx.mono (hb1).size)
      clear hbx e0 e1 e2 e3 e4 e5 e6 e7
      go_wp2_with fail
      rw [rounds_succ]
      go_wp2_with fail
      go_ret
      exact ⟨rfl, hb2⟩
end Go.Proofs.YtjaegddnikkibaaGreatDoor
