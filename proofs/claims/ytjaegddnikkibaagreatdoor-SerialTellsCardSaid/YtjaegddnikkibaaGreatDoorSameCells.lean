/-
  SameCells walked, at cells that are the same.
-/
import Derived.Test.YtjaegddnikkibaaGreatDoorWords
import Derived.BigQuiet
import Derived.Test.YtjaegddnikkibaaGreatDoorTwinPlain
import Derived.Test.YtjaegddnikkibaaGreatDoorSerPlain
import Derived.Test.YtjaegddnikkibaaGreatDoorRfSorted
import Derived.Test.YtjaegddnikkibaaGreatDoorBkNumber
set_option linter.unusedVariables false
set_option linter.unusedSimpArgs false
namespace Go.Proofs.YtjaegddnikkibaaGreatDoor
open Go.RowKit Go.Sort Go.Maps

set_option maxHeartbeats 2000000 in
set_option maxRecDepth 100000 in
theorem sameCells_any (A B : Option Addr) (c d : Nat) (cs : List (Int × Int)) (w : World) (hn : cs.length ≤ 68157440) (ha : CellsAt w A cs) (hb : CellsAt w B cs) :
    Calls Tryz.prog 14 #[.slice A cs.length c, .slice B cs.length d] w fun e w' => e = .returned (.bool true) ∧ Below w.heap.size w w' := by
  have HA := Lib.hid (fun W (h : Below w.heap.size w W) => ha.keep h)
  have HB := Lib.hid (fun W (h : Below w.heap.size w W) => hb.keep h)
  clear ha hb
  go_enter Tryz.func14, Tryz.ntmps14
  go_wp2_with fail
  go_loopw [13] (fun i wr => ∃ k : Nat, i = .int .i64 k ∧ k ≤ cs.length ∧ Hid (Below w.heap.size w wr)) (fun i _ => cs.length - (intOf i).toNat)
  case atStart => exact ⟨0, rfl, Nat.zero_le _, Lib.hid (Below.refl _ _)⟩
  case round =>
    obtain ⟨k, rfl, hk, hW⟩ := hrel
    by_cases hlt : k < cs.length
    · obtain ⟨b, off, rfl, hbl, hc⟩ := HA.out _ hW.out (by rintro rfl; simp at hlt)
      obtain ⟨b2, off2, rfl, hbl2, hc2⟩ := HB.out _ hW.out (by rintro rfl; simp at hlt)
      obtain ⟨e0, e1⟩ := hc k _ (List.getElem?_eq_getElem hlt)
      obtain ⟨f0, f1⟩ := hc2 k _ (List.getElem?_eq_getElem hlt)
      have p1 : (k : Int) < (cs.length : Int) := by omega
      have p2 : (0 : Int) ≤ (k : Int) := Int.natCast_nonneg _
      have hE := Lib.hid (fun n => below_drewN hW.out n)
      clear hc hc2 hW
      generalize cs[k] = cc at *
      obtain ⟨x, v⟩ := cc
      dsimp only at *
      go_wp2_with fail
      go_quiet (fail)
      go_wp2_with fail
      go_roundw
      case rel => exact ⟨k + 1, by go_num, by omega, Lib.hid (hE.out _)⟩
      case measure => simp [intOf]; omega
    · clear HA HB
      go_wp2_with fail
      go_ret
      exact ⟨rfl, hW.out⟩
end Go.Proofs.YtjaegddnikkibaaGreatDoor
namespace Go.Proofs.YtjaegddnikkibaaGreatDoor
open Go.RowKit Go.Sort Go.Maps

theorem leastV_core (l : List Att) : ∀ (r : List Int), leastV (l.map core) r = leastV l r
  | [] => rfl
  | n :: r => by
    unfold leastV
    rw [leastV_core l r, attN_core]; rfl
theorem twinB_core (l : List Att) (p : Option Int) (x : Att) : twinB (l.map core) p (core x) = twinB l p x := by
  cases p with
  | none => rfl
  | some q => unfold twinB; dsimp only; rw [attN_core]; rfl
theorem scheckGo_core (l : List Att) : ∀ (o : List Int) (p : Option Int) (h : Int → Int), scheckGo (l.map core) p o h = scheckGo l p o h
  | [], _, _ => rfl
  | n :: r, p, h => by
    have ih := scheckGo_core l r
    have e : orderedB (l.map core) p (core (attN l n)) r h = orderedB l p (attN l n) r h := by
      unfold orderedB
      rw [twinB_core, leastV_core]; rfl
    unfold scheckGo
    rw [attN_core, e, ih]; rfl
theorem scheckV_core (l : List Att) : scheckV (l.map core) = scheckV l := by
  unfold scheckV
  rw [checkedV_core, scheckGo_core, orderV_core]
theorem allK_core (l : List Att) (o : List Int) : allK (l.map core) o = allK l o := by
  unfold allK
  congr 1
  funext h i
  rw [attN_core]; rfl
theorem scheckV_same {l l' : List Att} (h : l'.map core = l.map core) : scheckV l' = scheckV l := by rw [← scheckV_core l', h, scheckV_core]
theorem checkedV_same {l l' : List Att} (h : l'.map core = l.map core) : checkedV l' = checkedV l := by rw [← checkedV_core l', h, checkedV_core]
theorem orderV_same {l l' : List Att} (h : l'.map core = l.map core) : orderV l' = orderV l := by rw [← orderV_core l', h, orderV_core]
theorem allK_same {l l' : List Att} (h : l'.map core = l.map core) : allK l' (orderV l') = allK l (orderV l) := by rw [orderV_same h, ← allK_core l', h, allK_core]

/-- the order that is handed back, the cells that are handed back -/
def ordL (l : List Att) : List Int := if checkedV l = 0 then orderV l else []
def CelL (l : List Att) (cs : List (Int × Int)) : Prop := if checkedV l = 0 then WordsIs cs (allK l (orderV l)) else cs = []
theorem celL_unique {l : List Att} {cs ds : List (Int × Int)} (h1 : CelL l cs) (h2 : CelL l ds) : cs = ds := by
  unfold CelL at *
  split at h1
  · rename_i h
    rw [if_pos h] at h2
    exact wordsIs_unique h1 h2
  · rename_i h
    rw [if_neg h] at h2
    rw [h1, h2]
theorem ordL_same {l l' : List Att} (h : l'.map core = l.map core) : ordL l' = ordL l := by unfold ordL; rw [checkedV_same h, orderV_same h]
theorem celL_same {l l' : List Att} (h : l'.map core = l.map core) {cs : List (Int × Int)} (hc : CelL l' cs) : CelL l cs := by unfold CelL at *; rw [checkedV_same h, allK_same h] at hc; exact hc
def OrdU (l : List Att) (w : World) (e : Ending) (w' : World) : Prop :=
  Below w.heap.size w w' ∧ ∃ A cap, e = .returned (.tuple #[.slice A (ordL l).length cap, .int .i64 (checkedV l)]) ∧ IntsAt w' A (ordL l) ∧ w'.ownsRow (w.heap.size + 1) 3 1 (.slice A (ordL l).length cap) (ordL l).length ((ordL l).map (Value.int .i64))
theorem OrdOwn.all {l : List Att} {w w' : World} {e : Ending} (h : OrdOwn l w e w') : OrdU l w e w' := by
  rcases h.2 with ⟨h1, rfl⟩ | ⟨h1, A, cap, rfl, h2, h3⟩
  · refine ⟨h.1, none, 0, ?_⟩
    rw [show ordL l = [] from if_neg h1]
    exact ⟨rfl, fun h => absurd rfl h, World.ownsRow_nil _ _ _ _⟩
  · refine ⟨h.1, A, cap, ?_⟩
    rw [show ordL l = orderV l from if_pos h1, h1]
    exact ⟨rfl, h2, h3⟩
def WordsU (l : List Att) (w : World) (e : Ending) (w' : World) : Prop :=
  Below w.heap.size w w' ∧ ∃ B cap cs, e = .returned (.tuple #[.slice B cs.length cap, .int .i64 (checkedV l)]) ∧ CelL l cs ∧ CellsAt w' B cs ∧ cs.length ≤ 68157440 ∧ w'.ownsRow (w.heap.size + 1) 91 2 (.slice B cs.length cap) cs.length (cs.flatMap cellC)
theorem WordsOwn.all {l : List Att} {w w' : World} {e : Ending} (h : WordsOwn l w e w') : WordsU l w e w' := by
  rcases h.2 with ⟨h1, rfl⟩ | ⟨h1, B, cap, cs, rfl, h2, h3, h4, h5⟩
  · exact ⟨h.1, none, 0, [], rfl, by unfold CelL; rw [if_neg h1], fun h => absurd rfl h, Nat.zero_le _, World.ownsRow_nil _ _ _ _⟩
  · refine ⟨h.1, B, cap, cs, by rw [h1], ?_, h3, h4, h5⟩
    unfold CelL; rw [if_pos h1]; exact h2
def WordsR (l : List Att) (w : World) (e : Ending) (w' : World) : Prop :=
  Below w.heap.size w w' ∧ ∃ B cap cs, e = .returned (.tuple #[.slice B cs.length cap, .int .i64 (checkedV l)]) ∧ CelL l cs ∧ CellsAt w' B cs ∧ cs.length ≤ 68157440
theorem WordsOut.all {l : List Att} {w w' : World} {e : Ending} (h : WordsOut l w e w') : WordsR l w e w' := by
  rcases h.2 with ⟨h1, rfl⟩ | ⟨h1, B, cap, cs, rfl, h2, h3, h4⟩
  · refine ⟨h.1, none, 0, [], rfl, ?_, fun h => absurd rfl h, Nat.zero_le _⟩
    unfold CelL; rw [if_neg h1]
  · refine ⟨h.1, B, cap, cs, by rw [h1], ?_, h3, h4⟩
    unfold CelL; rw [if_pos h1]; exact h2

set_option maxHeartbeats 1000000 in
set_option maxRecDepth 100000 in
theorem rfOrder_any (A : Option Addr) (c : Nat) (l : List Att) (hn : l.length ≤ 1048576) (hO : ∀ x ∈ l, x.Ok) (w : World) (ha : AttsAt w w.heap.size A l) :
    Calls Tryz.prog 10 #[.slice A l.length c] w fun e w' => Below w.heap.size w w' ∧ ∃ B cap, e = .returned (.tuple #[.slice B (ordL l).length cap, .int .i64 (checkedV l)]) ∧ IntsAt w' B (ordL l) := by
  have HC := Lib.hid (fun w1 (h : Below w.heap.size w w1) => rfMay_any A c l (by omega) hO w1 (ha.keep h h.size))
  have HSO := Lib.hid (fun w1 (h : Below w.heap.size w w1) => rfSorted_any A c l hn w1 (ha.keep h h.size))
  clear ha hO
  by_cases hck : checkedV l = 0
  · have hol : Hid (ordL l = orderV l) := Lib.hid (if_pos hck)
    have HK := Lib.hid hck
    rw [hol.out]
    clear hck
    go_enter Tryz.func10, Tryz.ntmps10
    go_wp2_with fail
    refine (HC.out _ (Below.refl _ _)).mono ?_
    rintro e w0 ⟨rfl, hb1⟩
    rw [HK.out]
    have HB0 := Lib.hid hb1
    clear hb1
    go_wp2_with fail
    refine (HSO.out _ HB0.out).mono ?_
    rintro e w1 ⟨⟨OA, oc, rfl, hI⟩, hb1⟩
    have HB1 := Lib.hid (HB0.out.trans (hb1.mono HB0.out.size))
    have HI := Lib.hid hI
    clear hb1 hI
    go_wp2_with fail
    refine bodyPost_ret (v := .tuple #[.slice OA (orderV l).length oc, .int .i64 0]) (by simp [results, Tryz.results10, go_sem]) rfl ?_
    exact ⟨HB1.out, OA, oc, by rw [HK.out], HI.out⟩
  · have hol : Hid (ordL l = []) := Lib.hid (if_neg hck)
    rw [hol.out]
    have HN : Hid (∀ z, z = checkedV l → (z != 0) = true ∧ decide (z = 0) = false) := Lib.hid (fun z hz => by subst hz; simp [hck])
    obtain ⟨z, hz⟩ : ∃ z, checkedV l = z := ⟨_, rfl⟩
    rw [hz] at HC HN ⊢
    clear hck hz
    go_enter Tryz.func10, Tryz.ntmps10
    go_wp2_with fail
    refine (HC.out _ (Below.refl _ _)).mono ?_
    rintro e w0 ⟨rfl, hb1⟩
    have HB0 := Lib.hid hb1
    obtain ⟨t1, t2⟩ := HN.out _ rfl
    clear hb1 HN
    go_wp2_with fail
    refine bodyPost_ret (v := .tuple #[.slice none 0 0, .int .i64 z]) (by simp [results, Tryz.results10, go_sem]) rfl ?_
    exact ⟨HB0.out, none, 0, rfl, fun h => absurd rfl h⟩

set_option maxHeartbeats 1000000 in
set_option maxRecDepth 100000 in
theorem sameNums_any (A B : Option Addr) (c d : Nat) (o : List Int) (w : World) (hn : o.length ≤ 68157440) (ha : IntsAt w A o) (hb : IntsAt w B o) :
    Calls Tryz.prog 13 #[.slice A o.length c, .slice B o.length d] w fun e w' => e = .returned (.bool true) ∧ Below w.heap.size w w' := by
  have HA := Lib.hid (fun W (h : Below w.heap.size w W) => ha.keep h)
  have HB := Lib.hid (fun W (h : Below w.heap.size w W) => hb.keep h)
  clear ha hb
  go_enter Tryz.func13, Tryz.ntmps13
  go_wp2_with fail
  go_loopw [13] (fun i wr => ∃ k : Nat, i = .int .i64 k ∧ k ≤ o.length ∧ Hid (Below w.heap.size w wr)) (fun i _ => o.length - (intOf i).toNat)
  case atStart => exact ⟨0, rfl, Nat.zero_le _, Lib.hid (Below.refl _ _)⟩
  case round =>
    obtain ⟨k, rfl, hk, hW⟩ := hrel
    by_cases hlt : k < o.length
    · obtain ⟨g1, o1, rfl, -, hc1⟩ := HA.out _ hW.out (by rintro rfl; simp at hlt)
      obtain ⟨g2, o2, rfl, -, hc2⟩ := HB.out _ hW.out (by rintro rfl; simp at hlt)
      have a1 := hc1 k _ (List.getElem?_eq_getElem hlt)
      have a2 := hc2 k _ (List.getElem?_eq_getElem hlt)
      have hE := Lib.hid (fun z => below_drewN hW.out z)
      have p1 : (0 : Int) ≤ (k : Int) := Int.natCast_nonneg _
      have p2 : (k : Int) < (o.length : Int) := by omega
      clear hc1 hc2
      generalize o[k] = x at *
      go_wp2_with fail
      go_quiet (fail)
      go_wp2_with fail
      go_roundw
      case rel => exact ⟨k + 1, by go_num, by omega, Lib.hid (hE.out _)⟩
      case measure => simp [intOf]; omega
    · go_wp2_with fail
      go_ret
      exact ⟨rfl, hW.out⟩

set_option maxHeartbeats 1000000 in
theorem bookNumbers_any (K B : Nat) (kc : Array Value) (v : Value) (cnt : Int) (rows : List HRow) (A : Option Addr) (n cap : Nat) (xs : List Value) (w : World) (hB : B ≤ K) (hK : w.heap[K]? = some (.cells kc 65 (0, 0))) (hk : kc[2]? = some v) (hk0 : kc[0]? = some (.int .i64 cnt)) (hc0 : 0 ≤ cnt) (hc1 : cnt ≤ 1000)
    (hH : Held 3 119 1 B w v rows) (hn : rows.length ≤ 1000) (hr : w.ownsRow B 3 1 (.slice A n cap) n xs) (ha : ∀ (i : Nat) (a : HRow), rows[i]? = some a → ∀ g, a.v.ownBlock = some g → (Value.slice A n cap).ownBlock ≠ some g) :
    Calls Tryz.prog 15 #[.pointer (some ⟨K, 0, none⟩), .slice A n cap] w fun e w' => e = .returned (.tuple #[]) ∧
      (∃ v', w'.heap[K]? = some (.cells ((kc.setIfInBounds 2 v').setIfInBounds 0 (.int .i64 (cnt + 1))) 65 (0, 0)) ∧ Held 3 119 1 B w' v' (rows ++ [⟨.slice A n cap, n, xs, cnt⟩])) ∧ FrB B (fun t => t == 119 || t == 65) w w' := by
  have HC := Lib.hid (keepNumber_any K B kc v cnt rows A n cap xs w hB hK hk hk0 hc0 hc1 hH hn hr ha)
  clear hK hk hk0 hH hr ha
  go_enter Tryz.func15, Tryz.ntmps15
  go_wp2_with fail
  refine HC.out.mono ?_
  rintro e w1 ⟨rfl, h1, h2⟩
  have H1 := Lib.hid h1
  have H2 := Lib.hid h2
  clear h1 h2 HC
  go_wp2_with fail
  go_end0
  exact ⟨rfl, H1.out, H2.out⟩
set_option maxHeartbeats 1000000 in
theorem bookCells_any (K B : Nat) (kc : Array Value) (v : Value) (cnt : Int) (rows : List HRow) (A : Option Addr) (n cap : Nat) (xs : List Value) (w : World) (hB : B ≤ K) (hK : w.heap[K]? = some (.cells kc 65 (0, 0))) (hk : kc[5]? = some v) (hk0 : kc[0]? = some (.int .i64 cnt)) (hc0 : 0 ≤ cnt) (hc1 : cnt ≤ 1000)
    (hH : Held 91 121 2 B w v rows) (hn : rows.length ≤ 1000) (hr : w.ownsRow B 91 2 (.slice A n cap) n xs) (ha : ∀ (i : Nat) (a : HRow), rows[i]? = some a → ∀ g, a.v.ownBlock = some g → (Value.slice A n cap).ownBlock ≠ some g) :
    Calls Tryz.prog 16 #[.pointer (some ⟨K, 0, none⟩), .slice A n cap] w fun e w' => e = .returned (.tuple #[]) ∧
      (∃ v', w'.heap[K]? = some (.cells ((kc.setIfInBounds 5 v').setIfInBounds 0 (.int .i64 (cnt + 1))) 65 (0, 0)) ∧ Held 91 121 2 B w' v' (rows ++ [⟨.slice A n cap, n, xs, cnt⟩])) ∧ FrB B (fun t => t == 121 || t == 65) w w' := by
  have HC := Lib.hid (keepCell_any K B kc v cnt rows A n cap xs w hB hK hk hk0 hc0 hc1 hH hn hr ha)
  clear hK hk hk0 hH hr ha
  go_enter Tryz.func16, Tryz.ntmps16
  go_wp2_with fail
  refine HC.out.mono ?_
  rintro e w1 ⟨rfl, h1, h2⟩
  have H1 := Lib.hid h1
  have H2 := Lib.hid h2
  clear h1 h2 HC
  go_wp2_with fail
  go_end0
  exact ⟨rfl, H1.out, H2.out⟩
end Go.Proofs.YtjaegddnikkibaaGreatDoor
