/-
  slices.Backward over ints: what it gives, for every loop body that keeps what lay below.
-/
import Derived.Test.YtjaegddnikkibaaGreatDoorOrdPlain
import Derived.RangeFuncNested
import Derived.RangeFuncBound
import Derived.RangeFuncCalls
import Derived.RangeFuncLeaves
import Derived.RangeFuncBox
import Derived.Shelf.Abstract
import Derived.WalkKit
import Derived.OwnWalkIn
import Derived.TacticsInMore
import Derived.LoopNIn
import Derived.LoopIn
set_option linter.unusedVariables false
set_option linter.unusedSimpArgs false
namespace Go.Proofs.YtjaegddnikkibaaGreatDoor
open Go.RowKit Go.Shelf
attribute [local go_sem] Oper.semAt_some

/-- all below n₀ but block g is as it was -/
structure KeepX (n₀ g : Nat) (w w' : World) : Prop where
  os : w'.os = w.os
  tape : w'.tape = w.tape
  output : w'.output = w.output
  size : w.heap.size ≤ w'.heap.size
  block : ∀ k, k < n₀ → k ≠ g → w'.heap[k]? = w.heap[k]?
theorem KeepX.refl (n₀ g : Nat) (w : World) : KeepX n₀ g w w := ⟨rfl, rfl, rfl, Nat.le_refl _, fun _ _ _ => rfl⟩
theorem KeepX.trans {n₀ g : Nat} {a b c : World} (h : KeepX n₀ g a b) (k : KeepX n₀ g b c) : KeepX n₀ g a c :=
  ⟨k.os.trans h.os, k.tape.trans h.tape, k.output.trans h.output, Nat.le_trans h.size k.size, fun i hi hm => (k.block i hi hm).trans (h.block i hi hm)⟩
theorem KeepX.drew {n₀ g : Nat} {a W : World} (h : KeepX n₀ g a W) : KeepX n₀ g a W.drew := ⟨h.os, h.tape, h.output, h.size, h.block⟩
theorem KeepX.put {n₀ g : Nat} {W : World} {l : Nat} (o : Obj) (hl : n₀ ≤ l) : KeepX n₀ g W (W.putObj l o) :=
  ⟨rfl, rfl, rfl, by simp, fun k hk _ => World.putObj_heap_other (by omega)⟩
theorem KeepX.set {n₀ g : Nat} (W : World) (o : Nat) (v : Value) : KeepX n₀ g W (W.setCell ⟨g, o, none⟩ v) :=
  ⟨rfl, rfl, rfl, by simp, fun k _ hm => heap_setCell_other _ _ k _ (fun e => hm (by simpa using e))⟩
theorem KeepX.grown {n₀ g : Nat} {a W W' : World} {row : Option Nat} (h : KeepX n₀ g a W) (hn : n₀ ≤ W.heap.size) (hg : W.grownBy W' row) (hr : ∀ r, row = some r → n₀ ≤ r) : KeepX n₀ g a W' :=
  h.trans ⟨hg.os, hg.tape, hg.output, hg.size, fun k hk _ => hg.block k (by omega) (fun e => by have := hr k e.symm; omega)⟩
theorem KeepX.cell {n₀ g : Nat} {w w' : World} (h : KeepX n₀ g w w') {p : Addr} (hp : p.block < n₀) (hm : p.block ≠ g) : w'.cell? p = w.cell? p := World.cell?_of_block (w := w) (h.block p.block hp hm)
theorem KeepX.below {n₀ g B : Nat} {w w' : World} (h : KeepX n₀ g w w') (hB : B ≤ n₀) (hg : B ≤ g) : Below B w w' := ⟨h.os, h.tape, h.output, h.size, fun k hk => h.block k (by omega) (by omega)⟩

/-- a number of the list, with its place -/
abbrev El (zs : List Int) := { x : Nat × Int // zs[x.1]? = some x.2 }
def revA (zs : List Int) : Nat → List (El zs)
  | 0 => []
  | k + 1 => if h : zs.length - 1 - k < zs.length ∧ k < zs.length then revA zs k ++ [⟨(zs.length - 1 - k, zs[zs.length - 1 - k]'h.1), List.getElem?_eq_getElem h.1⟩] else revA zs k
theorem revA_length (zs : List Int) : ∀ k, k ≤ zs.length → (revA zs k).length = k
  | 0, _ => rfl
  | k + 1, h => by
    unfold revA
    rw [dif_pos ⟨by omega, by omega⟩, List.length_append, revA_length zs k (by omega)]; rfl
theorem revA_succ (zs : List Int) {k m : Nat} (h : k + 1 + m = zs.length) (hm : m < zs.length) : revA zs (k + 1) = revA zs k ++ [⟨(m, zs[m]), List.getElem?_eq_getElem hm⟩] := by
  have e : zs.length - 1 - k = m := by omega
  rw [revA, dif_pos ⟨by omega, by omega⟩]
  subst e
  rfl

set_option maxRecDepth 100000 in
set_option maxHeartbeats 2000000 in
theorem backw1 (n l Bs n₀ g cap : Nat) (A : Option Addr) (zs : List Int) (hn : 1 ≤ n) (hreach : zs.length ≤ 1048576) (J Jx : List (El zs) → World → Prop)
    (hY : ∀ pre (x : El zs) W, J pre W → pre.length < zs.length → YieldAt Fence.wide (n - 1) Tryz.prog l #[.int .i64 (x.1.1 : Int), .int .i64 x.1.2] W fun e W' =>
      (e = .returned (.bool true) ∧ J (pre ++ [x]) W' ∧ KeepX n₀ g W W') ∨ (e = .returned (.bool false) ∧ Jx (pre ++ [x]) W'))
    (W : World) (hB : Bs < n₀) (hBg : Bs ≠ g) (hBs : W.cell? ⟨Bs, 0, none⟩ = some (.slice A zs.length cap)) (hc : zs ≠ [] → ∃ b off, A = some ⟨b, off, none⟩ ∧ b < n₀ ∧ b ≠ g ∧ ∀ k i, zs[k]? = some i → W.cell? ⟨b, off + k, none⟩ = some (.int .i64 i)) (h0 : J [] W) :
    CallsIn Fence.wide n Tryz.prog 129 #[.func (.yield l) #[] #[], .pointer (some ⟨Bs, 0, none⟩)] W fun e W' => (∃ v, e = .returned v) ∧
      ((∃ ys, ys = revA zs zs.length ∧ J ys W') ∨ (∃ pre, True ∧ Jx pre W')) := by
  refine callsIn_of_wp Tryz.func129 rfl trivial ?_ rfl
  simp only [Tryz.ntmps129, List.size_toArray, List.length_cons, List.length_nil, Nat.reduceAdd, Nat.reduceSub, Array.replicate_succ, Array.replicate_zero, List.push_toArray, List.append_toArray, List.nil_append, List.cons_append]
  gi_wp2
  gi_loopw [3] (fun i wr => ∃ k m : Nat, k + m = zs.length ∧ i = .int .i64 ((m : Int) - 1) ∧ J (revA zs k) wr ∧ KeepX n₀ g W wr)
    (fun i _ => (intOf i + 1).toNat)
  case atStart => exact ⟨0, zs.length, by omega, by go_num, h0, KeepX.refl _ _ _⟩
  case round =>
    obtain ⟨k, m, hkm, rfl, hJs, hnx⟩ := hrel
    have hBs' : wr.cell? ⟨Bs, 0, none⟩ = some (.slice A zs.length cap) := (hnx.cell (p := ⟨Bs, 0, none⟩) hB hBg).trans hBs
    cases m with
    | zero =>
      obtain rfl : k = zs.length := by omega
      gi_wp2
      go_end0
      exact ⟨⟨_, rfl⟩, .inl ⟨_, rfl, hJs⟩⟩
    | succ m =>
      have hm : m < zs.length := by omega
      rw [show (((m + 1 : Nat) : Int) - 1) = (m : Int) by omega]
      obtain ⟨b, off, rfl, hb, hbg, hcs⟩ := hc (by rintro rfl; simp at hm)
      have hcx : wr.cell? ⟨b, off + m, none⟩ = some (.int .i64 zs[m]) := (hnx.cell (p := ⟨b, off + m, none⟩) hb hbg).trans (hcs m _ (List.getElem?_eq_getElem hm))
      obtain ⟨fn, tmps, assign, body, hy, hR⟩ := hY _ ⟨(m, zs[m]), List.getElem?_eq_getElem hm⟩ wr hJs (by rw [revA_length zs k (by omega)]; omega)
      dsimp only at hy
      have p1 : (0 : Int) ≤ (m : Int) := Int.natCast_nonneg _
      have hsu := revA_succ zs (k := k) (m := m) (by omega) hm
      gi_wp2
      refine hR.mono ?_
      rintro e W3 (⟨rfl, hJ3, hk3⟩ | ⟨rfl, hJx3⟩)
      · gi_wp2
        go_roundw
        case rel => exact ⟨k + 1, m, by omega, by go_num, by rw [hsu]; exact hJ3, hnx.trans hk3⟩
        case measure => first | (simp [intOf]; done) | (simp [intOf]; omega)
      · gi_wp2
        refine bodyPost_ret (results_none rfl _ _ _) rfl ?_
        exact ⟨⟨_, rfl⟩, .inr ⟨_, trivial, hJx3⟩⟩

theorem backw_stops (n Bs n₀ g cap : Nat) (A : Option Addr) (zs : List Int) (hn : 1 ≤ n) (hreach : zs.length ≤ 1048576) (w : World) (hBs : Bs < n₀) (hBg : Bs ≠ g) (hn₀ : n₀ ≤ w.heap.size)
    (hc : w.cell? ⟨Bs, 0, none⟩ = some (.slice A zs.length cap)) (hI : zs ≠ [] → ∃ b off, A = some ⟨b, off, none⟩ ∧ b < n₀ ∧ b ≠ g ∧ ∀ k i, zs[k]? = some i → w.cell? ⟨b, off + k, none⟩ = some (.int .i64 i)) :
    SeqStopsK Fence.wide n Tryz.prog 129 #[.pointer (some ⟨Bs, 0, none⟩)] (fun x : El zs => #[Value.int .i64 (x.1.1 : Int), Value.int .i64 x.1.2]) (KeepX n₀ g) (fun ys => ys = revA zs zs.length) (fun _ => True) zs.length w :=
  fun l J Jx W hW _ _ hY h0 => by
    have hW' := hW.mono hn₀
    refine backw1 n l Bs n₀ g cap A zs hn hreach J Jx hY W hBs hBg ((hW'.cell (p := ⟨Bs, 0, none⟩) hBs).trans hc) (fun hne => ?_) h0
    obtain ⟨b, off, hA, hb, hbg, hcs⟩ := hI hne
    exact ⟨b, off, hA, hb, hbg, fun k i hk => (hW'.cell (p := ⟨b, off + k, none⟩) hb).trans (hcs k i hk)⟩

set_option maxHeartbeats 1000000 in
theorem backw_any (A : Option Addr) (len cap : Nat) (w : World) :
    Calls Tryz.prog 30 #[.slice A len cap] w fun e w' => e = .returned (.func (.func 129) #[] #[.pointer (some ⟨w.heap.size, 0, none⟩)]) ∧ w' = w.alloc (.cells #[.slice A len cap] 26 (0, 0)) := by
  go_enter Tryz.func30, Tryz.ntmps30
  go_wp2_with fail
  go_ret
  exact ⟨rfl, rfl⟩
end Go.Proofs.YtjaegddnikkibaaGreatDoor
