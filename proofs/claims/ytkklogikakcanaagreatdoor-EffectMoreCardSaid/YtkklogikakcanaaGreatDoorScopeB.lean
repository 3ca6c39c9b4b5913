import Derived.Test.YtkklogikakcanaaGreatDoorScopeA
import Derived.Test.YtkklogikakcanaaGreatDoorRegion
set_option linter.unusedVariables false
set_option linter.unusedSimpArgs false
open List renaming getElem_toArray → sl1, getElem_cons_zero → sl2, getElem_cons_succ → sl3, setIfInBounds_toArray → sl4, set_cons_zero → sl5, set_cons_succ → sl6, getElem?_toArray → sl7, getElem?_cons_zero → sl8, getElem?_cons_succ → sl9
namespace Go.Proofs.YtkklogikakcanaaGreatDoor
open Go Go.Maps Go.RowKit
abbrev faultS (e : Int) : Ending := .panicked [{ v := .iface 128 (.int .i64 e), recovered := false }]
theorem swant_yes (e : Int) (w : World) : Calls Tryz.prog 116 #[.bool true, .int .i64 e] w fun en w' => en = .returned (.tuple #[]) ∧ w = w' := by
 go_enter Tryz.func116, Tryz.ntmps116
 go_wp2
 go_end0
 exact ⟨rfl, rfl⟩
theorem swant_no (e : Int) (w : World) : Calls Tryz.prog 116 #[.bool false, .int .i64 e] w fun en w' => en = faultS e ∧ w = w' := by
 go_enter Tryz.func116, Tryz.ntmps116
 go_wp2
 exact ⟨rfl, rfl, rfl⟩
def WEnds (b : Bool) (e : Int) (en : Ending) : Prop := en = if b then .returned (.tuple #[]) else faultS e
theorem swant_any (b : Bool) (e : Int) (w : World) : Calls Tryz.prog 116 #[.bool b, .int .i64 e] w fun en w' => WEnds b e en ∧ w = w' := by
 cases b with
 | true => exact swant_yes e w
 | false => exact swant_no e w
abbrev KnS (Kb Rb X : Nat) (nm : List UInt8) (v : Value) (b : Bool) (W : World) : Prop := W.cell? ⟨Kb, 4, none⟩ = some (.map (some Rb)) ∧ W.cell? ⟨X, 1, none⟩ = some (.string ⟨nm.toArray⟩) ∧
 (Instr.lookup 168 (.map (some Rb)) (.string ⟨nm.toArray⟩) true).run Tryz.prog W = .ok (.tuple #[v, .bool b]) W
set_option maxHeartbeats 4000000 in
set_option maxRecDepth 100000 in
theorem sknown_any (B Kb Rb Fb Sb : Nat) (p : Pr) (t : Ty) (w : World) (h : ScIs B Kb Rb Fb Sb p w) (hl : lenOk t.nm.length) :
  Calls Tryz.prog 117 #[.pointer (some ⟨Kb, 0, none⟩), t.val] w fun e w' => WEnds (knownT p t) 9 e ∧ Below w.heap.size w w' := by
 obtain ⟨k, nm, n⟩ := t
 dsimp only at hl
 obtain ⟨X, hX⟩ : ∃ X, w.heap.size = X := ⟨_, rfl⟩
 obtain ⟨w1, hw1⟩ : ∃ w1, w.alloc (.cells #[.int .u8 k, .string ⟨nm.toArray⟩, .int .i64 n] 39 (0, 0)) = w1 := ⟨_, rfl⟩
 have hb1 : Below w.heap.size w w1 := by rw [← hw1]; exact (Below.refl _ _).alloc (Nat.le_refl _) _
 have x1 : w1.heap[X]? = some (.cells #[.int .u8 k, .string ⟨nm.toArray⟩, .int .i64 n] 39 (0, 0)) := by rw [← hw1, ← hX]; exact heap_alloc_new w _
 have h1 := h.below hb1
 have HS : Hid (KnS Kb Rb X nm (.int .i64 (((recOf p nm).getD 0 : Nat) : Int)) (recOf p nm).isSome w1.drew) := Lib.hid ⟨cell_at h1.k 4, cell_at x1 1, intMap_look (w := w1.drew) h1.recs hl⟩
 have HN := Lib.hid (And.intro hX hw1)
 have HB1 := Lib.hid hb1
 have HD : Hid (Below w.heap.size w w1.drew) := Lib.hid hb1.drew
 generalize (recOf p nm).getD 0 = ix at *
 clear hX hw1 hb1 x1 h h1
 by_cases hn : nm = []
 ·have hk : knownT p ⟨k, nm, n⟩ = true := by unfold knownT; simp [hn]
  rw [hk]
  have hn2 : nm.isEmpty = true := by simpa using hn
  clear hn hk
  go_enter Tryz.func117, Tryz.ntmps117
  go_wp2_with fail
  simp only [HN.out.1, HN.out.2]
  go_end0
  exact ⟨rfl, by first | exact HB1.out | (rw [← HN.out.1]; exact HB1.out)⟩
 ·have hk : knownT p ⟨k, nm, n⟩ = (recOf p nm).isSome := by unfold knownT; simp [hn]
  rw [hk]
  have hn2 : nm.isEmpty = false := by simpa using hn
  generalize (recOf p nm).isSome = b at *
  clear hn hk
  go_enter Tryz.func117, Tryz.ntmps117
  go_wp2_with fail
  simp only [HN.out.1, HN.out.2]
  refine wp_region_L (l := 11) (S := (KnS Kb Rb X nm (.int .i64 (ix : Int)) b)) (by kernel_rfl) ?_ (fun hHeld => ?_)
  ·((try dsimp only); (exact HS.out))
  refine wpAnyL_take (i := 0) (oi := _) (v := ?v1) rfl (by kernel_rfl) (fun _ _ _ h => h) (by assumption) (Or.inl ⟨by kernel_rfl, ?y1⟩) ?r1
  case y1 => (intro w hSw; (try dsimp only at hSw); go_simp; all_goals with_reducible rfl)
  try simp only [sl1, sl2, sl3, Act.put, sl4, sl5, sl6]
  refine wpAnyL_take (i := 1) (oi := _) (v := ?v2) rfl (by kernel_rfl) (fun _ _ _ h => h) (by assumption) (Or.inl ⟨by kernel_rfl, ?y2⟩) ?r2
  case y2 => (intro w hSw; (try dsimp only at hSw); go_simp; all_goals with_reducible rfl)
  try simp only [sl1, sl2, sl3, Act.put, sl4, sl5, sl6]
  refine wpAnyL_take (i := 2) (oi := _) (v := ?v3) rfl (by kernel_rfl) (fun _ _ _ h => h) (by assumption) (Or.inl ⟨by kernel_rfl, ?y3⟩) ?r3
  case y3 => (intro w hSw; (try dsimp only at hSw); go_simp; all_goals with_reducible rfl)
  try simp only [sl1, sl2, sl3, Act.put, sl4, sl5, sl6]
  refine wpAnyL_take (i := 3) (oi := _) (v := ?v4) rfl (by kernel_rfl) (fun _ _ _ h => h) (by assumption) (Or.inl ⟨by kernel_rfl, ?y4⟩) ?r4
  case y4 => (intro w hSw; (try dsimp only at hSw); go_simp; all_goals with_reducible rfl)
  try simp only [sl1, sl2, sl3, Act.put, sl4, sl5, sl6]
  refine wpAnyL_take (i := 4) (oi := _) (v := ?v5) rfl (by kernel_rfl) (fun _ _ _ h => h) (by assumption) (Or.inl ⟨by kernel_rfl, ?y5⟩) ?r5
  case y5 => (intro w hSw; (try dsimp only at hSw); go_simp; all_goals with_reducible rfl)
  try simp only [sl1, sl2, sl3, Act.put, sl4, sl5, sl6]
  refine wpAnyL_take (i := 5) (oi := _) (v := ?v6) rfl (by kernel_rfl) (fun _ _ _ h => h) (by assumption) (Or.inl ⟨by kernel_rfl, ?y6⟩) ?r6
  case y6 => (intro w hSw; (try dsimp only at hSw); go_simp; all_goals with_reducible rfl)
  try simp only [sl1, sl2, sl3, Act.put, sl4, sl5, sl6]
  refine wpAnyL_take (i := 6) (oi := _) (v := ?v7) rfl (by kernel_rfl) (fun _ _ _ h => h) (by assumption) (Or.inl ⟨by kernel_rfl, ?y7⟩) ?r7
  case y7 => (intro w hSw; (try dsimp only at hSw); go_simp; all_goals with_reducible rfl)
  try simp only [sl1, sl2, sl3, Act.put, sl4, sl5, sl6]
  refine wpAnyL_take (i := 7) (oi := _) (v := ?v8) rfl (by kernel_rfl) (fun _ _ _ h => h) (by assumption) (Or.inl ⟨by kernel_rfl, ?y8⟩) ?r8
  case y8 => (intro w hSw; (try dsimp only at hSw); go_simp; all_goals with_reducible rfl)
  try simp only [sl1, sl2, sl3, Act.put, sl4, sl5, sl6]
  refine wpAnyL_take (i := 8) (oi := _) (v := ?v9) rfl (by kernel_rfl) (fun _ _ _ h => h) (by assumption) (Or.inl ⟨by kernel_rfl, ?y9⟩) ?r9
  case y9 => (intro w hSw; (try dsimp only at hSw); go_simp; all_goals with_reducible rfl)
  try simp only [sl1, sl2, sl3, Act.put, sl4, sl5, sl6]
  refine wpAnyL_take (i := 9) (oi := _) (v := ?v10) rfl (by kernel_rfl) (fun _ _ _ h => h) (by assumption) (Or.inl ⟨by kernel_rfl, ?y10⟩) ?r10
  case y10 => (intro w hSw; (try dsimp only at hSw); go_simp; all_goals with_reducible rfl)
  try simp only [sl1, sl2, sl3, Act.put, sl4, sl5, sl6]
  refine wpAnyL_take (i := 10) (oi := _) (v := ?v11) rfl (by kernel_rfl) (fun _ _ _ h => h) (by assumption) (Or.inl ⟨by kernel_rfl, ?y11⟩) ?r11
  case y11 => (intro w hSw; (try dsimp only at hSw); go_simp; all_goals with_reducible rfl)
  try simp only [sl1, sl2, sl3, Act.put, sl4, sl5, sl6]
  refine wpAnyL_last (j := 11) (o := _) (by kernel_rfl) rfl (by rfl) (by kernel_rfl) (fun K hK => ?_)
  go_simp
  (refine hK _ _ ?_; clear hK K)
  try simp only [sl1, sl2, sl3, Act.put, sl4, sl5, sl6]
  go_wp2_with fail
  refine (swant_any b 9 _).mono ?_
  cases b with
  | true =>
   rintro e w2 ⟨rfl, rfl⟩
   go_wp2_with fail
   go_end0
   exact ⟨rfl, HD.out⟩
  | false =>
   rintro e w2 ⟨rfl, rfl⟩
   exact ⟨rfl, rfl, HD.out⟩
theorem leastN {P : Nat → Prop} : ∀ (n m : Nat), P m → m ≤ n → ∃ m, P m ∧ ∀ k, P k → m ≤ k
 | 0, m, hm, hn => ⟨m, hm, fun k _ => by omega⟩
 | n + 1, m, hm, hn => by
  by_cases h : ∃ k, P k ∧ k < m
  ·obtain ⟨k, hk, hlt⟩ := h
   exact leastN n k hk (by omega)
  ·exact ⟨m, hm, fun k hk => by
    rcases Nat.lt_or_ge k m with h1 | h1
    ·exact absurd ⟨k, hk, h1⟩ h
    ·exact h1⟩
theorem leastN_of {P : Nat → Prop} (h : ∃ m, P m) : ∃ m, P m ∧ ∀ k, P k → m ≤ k := by
 obtain ⟨m, hm⟩ := h
 exact leastN m m hm (Nat.le_refl _)
open Classical in
noncomputable def msrN (P : Nat → Prop) : Nat := if h : ∃ m, P m then Classical.choose (leastN_of h) else 0
theorem msrN_at {P : Nat → Prop} (h : ∃ m, P m) : P (msrN P) := by
 unfold msrN
 rw [dif_pos h]
 exact (Classical.choose_spec (leastN_of h)).1
theorem msrN_le {P : Nat → Prop} {m : Nat} (h : P m) : msrN P ≤ m := by
 unfold msrN
 rw [dif_pos ⟨m, h⟩]
 exact (Classical.choose_spec (leastN_of ⟨m, h⟩)).2 m h
def LcLeft (w : World) (nm : List UInt8) (R : Option Ty) (v : Value) (n : Nat) : Prop := ∃ lc a, v = .pointer a ∧ LcAt w a lc ∧ fieldOf lc nm = R ∧ lc.length = n
set_option maxHeartbeats 4000000 in
set_option maxRecDepth 100000 in
theorem sfind_any (a : Option Addr) (l : Lc) (nm : List UInt8) (w : World) (h : LcAt w a l) :
  Calls Tryz.prog 118 #[.pointer a, .string ⟨nm.toArray⟩] w fun e w' => e = .returned (.tuple #[((fieldOf l nm).getD ty0).val, .bool (fieldOf l nm).isSome]) ∧ Below w.heap.size w w' := by
 obtain ⟨R, hR⟩ : ∃ R, fieldOf l nm = R := ⟨_, rfl⟩
 rw [hR]
 obtain ⟨X, hX⟩ : ∃ X, w.heap.size = X := ⟨_, rfl⟩
 obtain ⟨w1, hw1⟩ : ∃ w1, w.alloc (.cells #[.int .u8 0, .string ⟨([] : List UInt8).toArray⟩, .int .i64 0] 39 (0, 0)) = w1 := ⟨_, rfl⟩
 have hb1 : Below w.heap.size w w1 := by rw [← hw1]; exact (Below.refl _ _).alloc (Nat.le_refl _) _
 have x1 : w1.heap[X]? = some (.cells #[.int .u8 0, .string ⟨([] : List UInt8).toArray⟩, .int .i64 0] 39 (0, 0)) := by rw [← hw1, ← hX]; exact heap_alloc_new w _
 have HN := Lib.hid (And.intro hX hw1)
 have HB1 : Hid (∀ u0 u1 u2, Below w.heap.size w (((w1.setCell ⟨X, 0, none⟩ u0).setCell ⟨X, 1, none⟩ u1).setCell ⟨X, 2, none⟩ u2)) := Lib.hid fun u0 u1 u2 =>
  ((hb1.setCell (p := ⟨X, 0, none⟩) (by rw [hX]; exact Nat.le_refl _) u0).setCell (p := ⟨X, 1, none⟩) (by rw [hX]; exact Nat.le_refl _) u1).setCell (p := ⟨X, 2, none⟩) (by rw [hX]; exact Nat.le_refl _) u2
 have HRow : Hid (∀ u0 u1 u2, (((w1.setCell ⟨X, 0, none⟩ u0).setCell ⟨X, 1, none⟩ u1).setCell ⟨X, 2, none⟩ u2).heap[X]? = some (.cells #[u0, u1, u2] 39 (0, 0))) := Lib.hid fun u0 u1 u2 => by
  have h := row_set (row_set (row_set x1 0 u0) 1 u1) 2 u2
  simpa using h
 have HL1 : Hid (∃ n, LcLeft w1 nm R (.pointer a) n) := Lib.hid ⟨_, l, a, rfl, h.below hb1, hR, rfl⟩
 have f0 := frz_at x1 0
 have f1 := frz_at x1 1
 have f2 := frz_at x1 2
 have c0 := cell_at x1 0
 have c1 := cell_at x1 1
 have c2 := cell_at x1 2
 simp only [sl7, sl8, sl9] at c0 c1 c2
 clear hX hw1 hb1 x1 h hR
 go_enter Tryz.func118, Tryz.ntmps118
 go_wp2_with fail
 simp only [HN.out.1, HN.out.2]
 go_loopw [0] (fun ii wr => Hid (wr = w1) ∧ Hid (∃ n, LcLeft w1 nm R ii n)) (fun ii wr => msrN (fun n => LcLeft w1 nm R ii n))
 case atStart => exact ⟨Lib.hid rfl, HL1⟩
 case round =>
  obtain ⟨hw, hL⟩ := hrel
  obtain rfl : wr = w1 := hw.out
  have hm := msrN_at hL.out
  obtain ⟨lc, a2, rfl, hLc, hF, hlen⟩ := hm
  clear HL1 hw
  cases lc with
  | nil =>
   obtain rfl : a2 = none := hLc
   obtain rfl : none = R := hF
   have row := HRow.out (.int .u8 0) (.string ⟨([] : List UInt8).toArray⟩) (.int .i64 0)
   have r0 := cell_at row 0
   have r1 := cell_at row 1
   have r2 := cell_at row 2
   simp only [sl7, sl8, sl9] at r0 r1 r2
   clear row hL hlen
   go_wp2_with fail
   refine bodyPost_ret (v := .tuple #[.agg #[.int .u8 0, .string ⟨([] : List UInt8).toArray⟩, .int .i64 0], .bool false]) (by simp [results, Tryz.results118, go_sem, r0, r1, r2]) rfl ?_
   exact ⟨rfl, HB1.out _ _ _⟩
  | cons f r =>
   obtain ⟨b, a3, rfl, hb, hok, hr⟩ := hLc
   have q0 := cell_at hb 0
   have q1 := cell_at hb 1
   have q2 := cell_at hb 2
   have q3 := cell_at hb 3
   have q4 := cell_at hb 4
   simp only [sl7, sl8, sl9] at q0 q1 q2 q3 q4
   rw [fieldOf] at hF
   by_cases he : f.nm = nm
   ·rw [if_pos he] at hF
    subst he
    obtain rfl : some f.t = R := hF
    have row := HRow.out (.int .u8 f.t.k) (.string ⟨f.t.nm.toArray⟩) (.int .i64 f.t.n)
    have r0 := cell_at row 0
    have r1 := cell_at row 1
    have r2 := cell_at row 2
    simp only [sl7, sl8, sl9] at r0 r1 r2
    clear row hL hr hlen hok hb
    go_wp2_with fail
    refine bodyPost_ret (v := .tuple #[.agg #[.int .u8 f.t.k, .string ⟨f.t.nm.toArray⟩, .int .i64 f.t.n], .bool true]) (by simp [results, Tryz.results118, go_sem, r0, r1, r2]) rfl ?_
    exact ⟨rfl, HB1.out _ _ _⟩
   ·rw [if_neg he] at hF
    have e1 : (f.nm == nm) = false := by simpa using he
    have e2 : decide (f.nm = nm) = false := by simpa using he
    have HNx : Hid (LcLeft wr nm R (.pointer a3) r.length) := Lib.hid ⟨r, a3, rfl, hr, hF, rfl⟩
    have HLt : Hid (r.length < msrN (fun n => LcLeft wr nm R (.pointer (some ⟨b, 0, none⟩)) n)) := Lib.hid (by rw [← hlen]; simp)
    clear he hL hr hlen hok hb hF
    go_wp2_with fail
    go_roundw
    case rel => exact ⟨Lib.hid (by first | rfl | trivial), Lib.hid ⟨_, HNx.out⟩⟩
    case measure => exact Nat.lt_of_le_of_lt (msrN_le HNx.out) HLt.out
end Go.Proofs.YtkklogikakcanaaGreatDoor
