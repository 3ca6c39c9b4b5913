/-
  The scanner of lex: where it stands in memory, and its functions.
-/
import Derived.Test.YthepjanojmemaaaGreatDoorLexRefWords
import Derived.Test.YthepjanojmemaaaGreatDoorLexInv
import Derived.Test.YthepjanojmemaaaGreatDoorFmtUint
import Derived.StillTailTactics
import Derived.Deep.RegionLaw
import Derived.Deep.AppendLies
import Derived.Deep.RegionHeld3
import Derived.Test.YthepjanojmemaaaGreatDoorRegion
set_option linter.unusedVariables false
set_option linter.unusedSimpArgs false
namespace Go.Proofs.YthepjanojmemaaaGreatDoor
open Go.RowKit

def Tok.cells (t : Tok) : List Value := [.int .u8 t.kd, .string ⟨t.text.toArray⟩, .int .i64 t.n, .int .i64 t.line]

theorem tokInfo : (Tryz.prog.info? 67).map (fun i => (i.zero, i.size, i.bytes)) = some (some (.agg #[.int .u8 0, .string ⟨#[]⟩, .int .i64 0, .int .i64 0]), 4, 40) := by kernel_rfl

/-- the scanner's block X: the text, the place, the line, and the row of its tokens -/
structure ScanAt (X : Nat) (s : List UInt8) (at_ line : Nat) (toks : List Tok) (v : Value) (w : World) : Prop where
  blk : w.heap[X]? = some (.cells #[.string ⟨s.toArray⟩, .int .i64 at_, .int .i64 line, v] 61 (0, 0))
  own : w.ownsRow (X + 1) 67 4 v toks.length (toks.flatMap Tok.cells)
theorem cell_blk {w : World} {X : Nat} {cs : Array Value} {T : TypeId} (h : w.heap[X]? = some (.cells cs T (0, 0))) (j : Nat) : w.cell? ⟨X, j, none⟩ = cs[j]? := by
  simp [World.cell?, h]
theorem frozen_blk {w : World} {X : Nat} {cs : Array Value} {T : TypeId} (h : w.heap[X]? = some (.cells cs T (0, 0))) (j : Nat) : w.frozen? ⟨X, j, none⟩ = false := by
  simp [World.frozen?, h]

theorem blk_setCell3 {w : World} {X : Nat} {a b c d : Value} {T : TypeId} (h : w.heap[X]? = some (.cells #[a, b, c, d] T (0, 0))) (u : Value) :
    (w.setCell ⟨X, 3, none⟩ u).heap[X]? = some (.cells #[a, b, c, u] T (0, 0)) := by
  have hlt : X < w.heap.size := (Array.getElem?_eq_some_iff.1 h).1
  have hg : w.heap[X] = .cells #[a, b, c, d] T (0, 0) := (Array.getElem?_eq_some_iff.1 h).2
  simp [World.setCell, hlt, Array.getElem_modify, hg]
theorem extract_list (s : List UInt8) (a b : Nat) : (⟨s.toArray⟩ : ByteArray).extract a b = ⟨((s.drop a).take (b - a)).toArray⟩ := by
  apply ByteArray.ext
  simp [ByteArray.data_extract, List.extract_eq_take_drop]

set_option maxHeartbeats 1000000 in
set_option maxRecDepth 100000 in
theorem put_any (X : Nat) (s : List UInt8) (at_ line from_ : Nat) (k n : Int) (toks : List Tok) (v : Value) (w : World) (hs : s.length ≤ 65536) (hn0 : toks.length ≤ 65536) (h1 : from_ ≤ at_) (h2 : at_ ≤ s.length) (hS : ScanAt X s at_ line toks v w) :
    Calls Tryz.prog 161 #[.pointer (some ⟨X, 0, none⟩), .int .u8 k, .int .i64 from_, .int .i64 n] w fun e w' =>
      e = .returned (.tuple #[]) ∧ Below X w w' ∧ ∃ v', ScanAt X s at_ line (toks ++ [⟨k, (s.drop from_).take (at_ - from_), n, line⟩]) v' w' := by
  have c0 := cell_blk hS.blk 0
  have c1 := cell_blk hS.blk 1
  have c2 := cell_blk hS.blk 2
  have c3 := cell_blk hS.blk 3
  have f3 := frozen_blk hS.blk 3
  simp only [List.getElem?_toArray, List.getElem?_cons_zero, List.getElem?_cons_succ] at c0 c1 c2 c3
  have HS := Lib.hid hS
  clear hS
  obtain ⟨i0, hi0, hz0, hz1, hz2⟩ := info_parts tokInfo
  have lX := World.block_lt_of_cell? w _ c0
  have hne : some X ≠ v.ownBlock := fun e => by
    have := (HS.out.own.lt X e.symm).1
    omega
  have B1 : ∀ o, Below w.heap.size w (w.alloc o).drew := fun o => ((Below.refl _ _).alloc (Nat.le_refl _) o).drew
  have C0 := Lib.hid (fun o => ((B1 o).cell (p := ⟨X, 0, none⟩) lX).trans c0)
  have C1 := Lib.hid (fun o => ((B1 o).cell (p := ⟨X, 1, none⟩) lX).trans c1)
  have C2 := Lib.hid (fun o => ((B1 o).cell (p := ⟨X, 2, none⟩) lX).trans c2)
  have C3 := Lib.hid (fun o => ((B1 o).cell (p := ⟨X, 3, none⟩) lX).trans c3)
  have F3 := Lib.hid (fun o => ((B1 o).frozen (p := ⟨X, 3, none⟩) lX).trans f3)
  clear B1
  have p0 : (0 : Int) ≤ (from_ : Int) := Int.natCast_nonneg _
  have p1 : (from_ : Int) ≤ (at_ : Int) := by omega
  have p2 : (at_ : Int) ≤ (s.length : Int) := by omega
  have hx := extract_list s from_ at_
  generalize (s.drop from_).take (at_ - from_) = tx at *
  go_enter Tryz.func161, Tryz.ntmps161
  go_wp2_with fail
  refine wp_region_L (l := 26) (S := (fun w' => w'.cell? ⟨X, 0, none⟩ = some (.string ⟨s.toArray⟩) ∧ w'.cell? ⟨X, 1, none⟩ = some (.int .i64 at_) ∧ w'.cell? ⟨X, 2, none⟩ = some (.int .i64 line) ∧ w'.cell? ⟨X, 3, none⟩ = some v)) (by kernel_rfl) ?_ (fun hHeld => ?_)
  · ((try dsimp only); (first | exact ⟨hgrow.cell (C0.out _) hne, hgrow.cell (C1.out _) hne, hgrow.cell (C2.out _) hne, hgrow.cell (C3.out _) hne⟩ | go_keep))
  refine wpAnyL_take (i := 0) (oi := _) (v := ?v1) rfl (by kernel_rfl) (fun _ _ _ h => h) (by assumption) (Or.inl ⟨by kernel_rfl, ?y1⟩) ?r1
  case y1 => (intro w hSw; (try dsimp only at hSw); go_simp; all_goals with_reducible rfl)
  try simp only [Act.put, List.setIfInBounds_toArray, List.set_cons_zero, List.set_cons_succ]
  refine wpAnyL_take (i := 1) (oi := _) (v := ?v2) rfl (by kernel_rfl) (fun _ _ _ h => h) (by assumption) (Or.inl ⟨by kernel_rfl, ?y2⟩) ?r2
  case y2 => (intro w hSw; (try dsimp only at hSw); go_simp; all_goals with_reducible rfl)
  try simp only [Act.put, List.setIfInBounds_toArray, List.set_cons_zero, List.set_cons_succ]
  refine wpAnyL_take (i := 2) (oi := _) (v := ?v3) rfl (by kernel_rfl) (fun _ _ _ h => h) (by assumption) (Or.inl ⟨by kernel_rfl, ?y3⟩) ?r3
  case y3 => (intro w hSw; (try dsimp only at hSw); go_simp; all_goals with_reducible rfl)
  try simp only [Act.put, List.setIfInBounds_toArray, List.set_cons_zero, List.set_cons_succ]
  refine wpAnyL_take (i := 3) (oi := _) (v := ?v4) rfl (by kernel_rfl) (fun _ _ _ h => h) (by assumption) (Or.inl ⟨by kernel_rfl, ?y4⟩) ?r4
  case y4 => (intro w hSw; (try dsimp only at hSw); go_simp; all_goals with_reducible rfl)
  try simp only [Act.put, List.setIfInBounds_toArray, List.set_cons_zero, List.set_cons_succ]
  refine wpAnyL_take (i := 4) (oi := _) (v := ?v5) rfl (by kernel_rfl) (fun _ _ _ h => h) (by assumption) (Or.inl ⟨by kernel_rfl, ?y5⟩) ?r5
  case y5 => (intro w hSw; (try dsimp only at hSw); go_simp; all_goals with_reducible rfl)
  try simp only [Act.put, List.setIfInBounds_toArray, List.set_cons_zero, List.set_cons_succ]
  refine wpAnyL_take (i := 5) (oi := _) (v := ?v6) rfl (by kernel_rfl) (fun _ _ _ h => h) (by assumption) (Or.inl ⟨by kernel_rfl, ?y6⟩) ?r6
  case y6 => (intro w hSw; (try dsimp only at hSw); go_simp; all_goals with_reducible rfl)
  try simp only [Act.put, List.setIfInBounds_toArray, List.set_cons_zero, List.set_cons_succ]
  refine wpAnyL_take (i := 6) (oi := _) (v := ?v7) rfl (by kernel_rfl) (fun _ _ _ h => h) (by assumption) (Or.inl ⟨by kernel_rfl, ?y7⟩) ?r7
  case y7 => (intro w hSw; (try dsimp only at hSw); go_simp; all_goals with_reducible rfl)
  try simp only [Act.put, List.setIfInBounds_toArray, List.set_cons_zero, List.set_cons_succ]
  refine wpAnyL_take (i := 7) (oi := _) (v := ?v8) rfl (by kernel_rfl) (fun _ _ _ h => h) (by assumption) (Or.inl ⟨by kernel_rfl, ?y8⟩) ?r8
  case y8 => (intro w hSw; (try dsimp only at hSw); go_simp; all_goals with_reducible rfl)
  try simp only [Act.put, List.setIfInBounds_toArray, List.set_cons_zero, List.set_cons_succ]
  refine wpAnyL_take (i := 8) (oi := _) (v := ?v9) rfl (by kernel_rfl) (fun _ _ _ h => h) (by assumption) (Or.inl ⟨by kernel_rfl, ?y9⟩) ?r9
  case y9 => (intro w hSw; (try dsimp only at hSw); go_simp; all_goals with_reducible rfl)
  try simp only [Act.put, List.setIfInBounds_toArray, List.set_cons_zero, List.set_cons_succ]
  refine wpAnyL_take (i := 9) (oi := _) (v := ?v10) rfl (by kernel_rfl) (fun _ _ _ h => h) (by assumption) (Or.inl ⟨by kernel_rfl, ?y10⟩) ?r10
  case y10 => (intro w hSw; (try dsimp only at hSw); go_simp; all_goals with_reducible rfl)
  try simp only [Act.put, List.setIfInBounds_toArray, List.set_cons_zero, List.set_cons_succ]
  refine wpAnyL_take (i := 10) (oi := _) (v := ?v11) rfl (by kernel_rfl) (fun _ _ _ h => h) (by assumption) (Or.inl ⟨by kernel_rfl, ?y11⟩) ?r11
  case y11 => (intro w hSw; (try dsimp only at hSw); go_simp; all_goals with_reducible rfl)
  try simp only [Act.put, List.setIfInBounds_toArray, List.set_cons_zero, List.set_cons_succ]
  refine wpAnyL_take (i := 11) (oi := _) (v := ?v12) rfl (by kernel_rfl) (fun _ _ _ h => h) (by assumption) (Or.inl ⟨by kernel_rfl, ?y12⟩) ?r12
  case y12 => (intro w hSw; (try dsimp only at hSw); go_simp; all_goals with_reducible rfl)
  try simp only [Act.put, List.setIfInBounds_toArray, List.set_cons_zero, List.set_cons_succ]
  refine wpAnyL_take (i := 12) (oi := _) (v := ?v13) rfl (by kernel_rfl) (fun _ _ _ h => h) (by assumption) (Or.inl ⟨by kernel_rfl, ?y13⟩) ?r13
  case y13 => (intro w hSw; (try dsimp only at hSw); go_simp; all_goals with_reducible rfl)
  try simp only [Act.put, List.setIfInBounds_toArray, List.set_cons_zero, List.set_cons_succ]
  refine wpAnyL_take (i := 13) (oi := _) (v := ?v14) rfl (by kernel_rfl) (fun _ _ _ h => h) (by assumption) (Or.inl ⟨by kernel_rfl, ?y14⟩) ?r14
  case y14 => (intro w hSw; (try dsimp only at hSw); go_simp; all_goals with_reducible rfl)
  try simp only [Act.put, List.setIfInBounds_toArray, List.set_cons_zero, List.set_cons_succ]
  refine wpAnyL_take (i := 14) (oi := _) (v := ?v15) rfl (by kernel_rfl) (fun _ _ _ h => h) (by assumption) (Or.inl ⟨by kernel_rfl, ?y15⟩) ?r15
  case y15 => (intro w hSw; (try dsimp only at hSw); go_simp; all_goals with_reducible rfl)
  try simp only [Act.put, List.setIfInBounds_toArray, List.set_cons_zero, List.set_cons_succ]
  refine wpAnyL_take (i := 15) (oi := _) (v := ?v16) rfl (by kernel_rfl) (fun _ _ _ h => h) (by assumption) (Or.inl ⟨by kernel_rfl, ?y16⟩) ?r16
  case y16 => (intro w hSw; (try dsimp only at hSw); go_simp; all_goals with_reducible rfl)
  try simp only [Act.put, List.setIfInBounds_toArray, List.set_cons_zero, List.set_cons_succ]
  refine wpAnyL_take (i := 16) (oi := _) (v := ?v17) rfl (by kernel_rfl) (fun _ _ _ h => h) (by assumption) (Or.inl ⟨by kernel_rfl, ?y17⟩) ?r17
  case y17 => (intro w hSw; (try dsimp only at hSw); go_simp; all_goals with_reducible rfl)
  try simp only [Act.put, List.setIfInBounds_toArray, List.set_cons_zero, List.set_cons_succ]
  refine wpAnyL_take (i := 17) (oi := _) (v := ?v18) rfl (by kernel_rfl) (fun _ _ _ h => h) (by assumption) (Or.inl ⟨by kernel_rfl, ?y18⟩) ?r18
  case y18 => (intro w hSw; (try dsimp only at hSw); go_simp; all_goals with_reducible rfl)
  try simp only [Act.put, List.setIfInBounds_toArray, List.set_cons_zero, List.set_cons_succ]
  refine wpAnyL_take (i := 18) (oi := _) (v := ?v19) rfl (by kernel_rfl) (fun _ _ _ h => h) (by assumption) (Or.inl ⟨by kernel_rfl, ?y19⟩) ?r19
  case y19 => (intro w hSw; (try dsimp only at hSw); go_simp; all_goals with_reducible rfl)
  try simp only [Act.put, List.setIfInBounds_toArray, List.set_cons_zero, List.set_cons_succ]
  refine wpAnyL_take (i := 19) (oi := _) (v := ?v20) rfl (by kernel_rfl) (fun _ _ _ h => h) (by assumption) (Or.inl ⟨by kernel_rfl, ?y20⟩) ?r20
  case y20 => (intro w hSw; (try dsimp only at hSw); go_simp; all_goals with_reducible rfl)
  try simp only [Act.put, List.setIfInBounds_toArray, List.set_cons_zero, List.set_cons_succ]
  refine wpAnyL_take (i := 20) (oi := _) (v := ?v21) rfl (by kernel_rfl) (fun _ _ _ h => h) (by assumption) (Or.inl ⟨by kernel_rfl, ?y21⟩) ?r21
  case y21 => (intro w hSw; (try dsimp only at hSw); go_simp; all_goals with_reducible rfl)
  try simp only [Act.put, List.setIfInBounds_toArray, List.set_cons_zero, List.set_cons_succ]
  refine wpAnyL_take (i := 21) (oi := _) (v := ?v22) rfl (by kernel_rfl) (fun _ _ _ h => h) (by assumption) (Or.inl ⟨by kernel_rfl, ?y22⟩) ?r22
  case y22 => (intro w hSw; (try dsimp only at hSw); go_simp; all_goals with_reducible rfl)
  try simp only [Act.put, List.setIfInBounds_toArray, List.set_cons_zero, List.set_cons_succ]
  refine wpAnyL_step (j := 22) (o := _) (by kernel_rfl) rfl (fun K hK => ?_)
  go_simp
  refine hK _ _ ?_ (fun hHeld => ?_)
  · ((try dsimp only); (first | exact ⟨hgrow.cell (C0.out _) hne, hgrow.cell (C1.out _) hne, hgrow.cell (C2.out _) hne, hgrow.cell (C3.out _) hne⟩ | go_keep))
  clear hK K
  try simp only [Act.put, List.setIfInBounds_toArray, List.set_cons_zero, List.set_cons_succ]
  refine wpAnyL_step (j := 23) (o := _) (by kernel_rfl) rfl (fun K hK => ?_)
  ((refine step_append_lies _ (by rfl) _ _ _ (by rfl) (X + 1) 67 i0 _ 4 40 Tryz.underlying22 hi0 hz0 hz1 hz2 rfl (by omega) v toks.length (toks.flatMap Tok.cells) (by rfl) ((HS.out.own.alloc _).drew) ⟨w.heap.size, 0, none⟩ 1 1 [.int .u8 k, .string ⟨tx.toArray⟩, .int .i64 n, .int .i64 line] (by rfl) (by rfl) (World.news_of_block (cs := #[.int .u8 k, .string ⟨tx.toArray⟩, .int .i64 n, .int .i64 line]) (t := 67) (fr := (0, 0)) (heap_alloc_new w _)) (by simp [Value.oneCell']) (by omega) (by simp only [maxLen]; omega) (by omega) (by simp; omega) (w.heap.size + 1) (by simp) ?_; intro gg cap w1 hown1 hgrow hat hlt; have hc3 := hgrow.cell (C3.out _) hne; have hf3 := (World.frozen?_of_block (a := ⟨X, 3, none⟩) (hgrow.block X (by simp; omega) hne)).trans (F3.out _)))
  refine hK _ _ ?_ (fun hHeld => ?_)
  · ((try dsimp only); (first | exact ⟨hgrow.cell (C0.out _) hne, hgrow.cell (C1.out _) hne, hgrow.cell (C2.out _) hne, hgrow.cell (C3.out _) hne⟩ | go_keep))
  clear hK K
  try simp only [Act.put, List.setIfInBounds_toArray, List.set_cons_zero, List.set_cons_succ]
  refine wpAnyL_take (i := 24) (oi := _) (v := ?v25) rfl (by kernel_rfl) (fun _ _ _ h => h) (by assumption) (Or.inl ⟨by kernel_rfl, ?y25⟩) ?r25
  case y25 => (intro w hSw; (try dsimp only at hSw); go_simp; all_goals with_reducible rfl)
  try simp only [Act.put, List.setIfInBounds_toArray, List.set_cons_zero, List.set_cons_succ]
  refine wpAnyL_take (i := 25) (oi := _) (v := ?v26) rfl (by kernel_rfl) (fun _ _ _ h => h) (by assumption) (Or.inl ⟨by kernel_rfl, ?y26⟩) ?r26
  case y26 => (intro w hSw; (try dsimp only at hSw); go_simp; all_goals with_reducible rfl)
  try simp only [Act.put, List.setIfInBounds_toArray, List.set_cons_zero, List.set_cons_succ]
  refine wpAnyL_last (j := 26) (o := _) (by kernel_rfl) rfl (by rfl) (by kernel_rfl) (fun K hK => ?_)
  go_simp
  (refine hK _ _ ?_; clear hK K)
  try simp only [Act.put, List.setIfInBounds_toArray, List.set_cons_zero, List.set_cons_succ]
  have hB1 : X < ((w.alloc (Obj.cells #[.int .u8 k, .string ⟨tx.toArray⟩, .int .i64 n, .int .i64 line] 67 (0, 0))).drew).heap.size := by
    simp
    omega
  have hb1 : w1.heap[X]? = some (.cells #[.string ⟨s.toArray⟩, .int .i64 at_, .int .i64 line, v] 61 (0, 0)) :=
    (hgrow.block X hB1 hne).trans ((Below.heap_alloc w _ X lX).trans HS.out.blk)
  have hb : Below X w w1 := ((((Below.refl X w).alloc (Nat.le_of_lt lX) _).drew).grown hgrow (Nat.le_of_lt hB1) (fun kk h => by
    have := (HS.out.own.lt kk h).1
    omega))
  have hS1 : ∀ u, u = Value.slice (some ⟨gg, 0, none⟩) (toks.length + 1) cap → ScanAt X s at_ line (toks ++ [⟨k, tx, n, line⟩]) u (w1.setCell ⟨X, 3, none⟩ u) := fun u hu => by
    subst hu
    refine ⟨blk_setCell3 hb1 _, ?_⟩
    have := ownsRow_setCell_below hown1 (a := ⟨X, 3, none⟩) (by simp) (.slice (some ⟨gg, 0, none⟩) (toks.length + 1) cap)
    rw [List.flatMap_append, List.length_append]
    exact this
  have hb2 := fun u => hb.setCell (p := ⟨X, 3, none⟩) (Nat.le_refl _) u
  clear hB1 hb1 hb
  refine bodyPost_end (results_none rfl _ _ _) rfl ?_
  exact ⟨rfl, hb2 _, _, hS1 _ rfl⟩
end Go.Proofs.YthepjanojmemaaaGreatDoor
