/-
  opaque.writes walked.
-/
import Derived.Test.YtjaegddnikkibaaHeapDo
import Derived.Test.YtjaegddnikkibaaOrdPlain
import Derived.WalkSmall
import Derived.WideMake
set_option linter.unusedVariables false
set_option linter.unusedSimpArgs false
namespace Go.Proofs.Ytjaegddnikkibaa
open Go.RowKit Go.Sort Go.Maps

def evSum (l : List Att) : List Int → Nat
  | [] => 0
  | i :: o => (attN l i).evs.length + evSum l o
theorem evSum_append (l : List Att) : ∀ (a b : List Int), evSum l (a ++ b) = evSum l a + evSum l b
  | [], b => by simp [evSum]
  | i :: a, b => by simp only [List.cons_append, evSum]; rw [evSum_append l a b]; omega
theorem evSum_take (l : List Att) (o : List Int) (k : Nat) : evSum l (o.take k) ≤ evSum l o := by
  conv => rhs; rw [← List.take_append_drop k o]
  rw [evSum_append]; omega
theorem evSum_perm {l : List Att} {a b : List Int} (h : a.Perm b) : evSum l a = evSum l b := by
  induction h with
  | nil => rfl
  | cons x _ ih => simp only [evSum]; omega
  | swap x y _ => simp only [evSum]; omega
  | trans _ _ h1 h2 => omega
theorem evSum_committed (l : List Att) : ∀ (r : List Att) (k : Nat), (∀ j x, r[j]? = some x → l[k + j]? = some x) → evSum l (committed k r) ≤ totalSize r
  | [], k, _ => by simp [committed, evSum, totalSize]
  | x :: r, k, h => by
    have ih := evSum_committed l r (k + 1) (fun j y hy => by rw [show k + 1 + j = k + (j + 1) by omega]; exact h (j + 1) y (by simpa using hy))
    have hx := h 0 x (by simp)
    have e : attN l (k : Int) = x := by
      unfold attN
      rw [Int.toNat_natCast, List.getD_eq_getElem?_getD]
      rw [Nat.add_zero] at hx
      rw [hx]; rfl
    unfold committed totalSize
    split
    · simp only [evSum]; rw [e]; omega
    · omega
theorem evSum_order {l : List Att} : evSum l (orderV l) ≤ totalSize l := by
  rw [show evSum l (orderV l) = evSum l (committed 0 l) from evSum_perm (sortB_perm _ _)]
  exact evSum_committed l l 0 (fun j x hx => by rw [Nat.zero_add]; exact hx)

def heapStep (l : List Att) (n : Int) (h : Int → Int) (i : Int) : Int → Int := if i ≠ n ∧ (attN l i).pl ≤ (attN l n).ck then doV h (attN l i).evs else h
theorem heapV_eq (l : List Att) (o : List Int) (n : Int) : heapV l o n = o.foldl (heapStep l n) (fun _ => 0) := rfl
theorem heap_take (l : List Att) (n : Int) (o : List Int) {k : Nat} (hk : k < o.length) : (o.take (k + 1)).foldl (heapStep l n) (fun _ => 0) = heapStep l n ((o.take k).foldl (heapStep l n) (fun _ => 0)) o[k] := by
  rw [List.take_succ_eq_append_getElem hk, List.foldl_append]; rfl
theorem attN_get {l : List Att} {j : Nat} (h : j < l.length) : attN l (j : Int) = l[j] := by
  unfold attN
  rw [Int.toNat_natCast, List.getD_eq_getElem?_getD, List.getElem?_eq_getElem h]; rfl

set_option maxHeartbeats 2000000 in
set_option maxRecDepth 100000 in
theorem writes_any (A O : Option Addr) (c oc n : Nat) (l : List Att) (o : List Int) (hn : n < l.length) (hl : l.length ≤ 1048576) (hol : o.length ≤ 1048576) (hsum : evSum l o ≤ 1048576) (hO : ∀ x ∈ l, x.Ok ∧ ∀ e ∈ x.evs, evB x.th e = true)
    (hr : ∀ i ∈ o, ∃ j : Nat, i = j ∧ j < l.length) (w : World) (ha : AttsAt w w.heap.size A l) (hi : IntsAt w O o) :
    Calls Try.prog 45 #[.slice A l.length c, .slice O o.length oc, .int .i64 n] w fun e w' =>
      e = .returned (.map (some w.heap.size)) ∧ HeapAt Try.prog 2 w' w.heap.size (65 * evSum l o) (heapV l o n) ∧ Below w.heap.size w w' := by
  have HA := Lib.hid (fun W (h : Below w.heap.size w W) => ha.keep h (Nat.le_refl _))
  have HI := Lib.hid (fun W (h : Below w.heap.size w W) => hi.keep h)
  have HOK := Lib.hid hO
  have HR := Lib.hid hr
  have HV := Lib.hid (heapV_eq l o n)
  clear ha hi hO hr
  generalize heapV l o n = res at *
  have hmk := run_makeMap_plain (P := Try.prog) w 61
  go_enter Try.func45, Try.ntmps45
  go_wp2_with fail
  clear hmk
  go_loopw [13] (fun i wr => ∃ k : Nat, i = .int .i64 k ∧ k ≤ o.length ∧ Hid (HeapAt Try.prog 2 wr w.heap.size (65 * evSum l (o.take k)) ((o.take k).foldl (heapStep l n) (fun _ => 0))) ∧ Hid (Below w.heap.size w wr)) (fun i _ => o.length - (intOf i).toNat)
  case atStart => exact ⟨0, rfl, Nat.zero_le _, Lib.hid (HeapAt.made _ _ w), Lib.hid ((Below.refl _ _).alloc (Nat.le_refl _) _)⟩
  case round =>
    obtain ⟨k, rfl, hk, hH, hW⟩ := hrel
    by_cases hlt : k < o.length
    · obtain ⟨g, goff, rfl, hgl, hgc⟩ := HI.out _ hW.out (by rintro rfl; simp at hlt)
      obtain ⟨i, hi, hil⟩ := HR.out _ (List.getElem_mem hlt)
      have e1 := hgc k _ (List.getElem?_eq_getElem hlt)
      obtain ⟨b, off, rfl, hbl, hc⟩ := (HA.out _ hW.out).row (by rintro rfl; simp at hn)
      have c5 := (hc i _ (List.getElem?_eq_getElem hil)).c5
      have c7 := (hc i _ (List.getElem?_eq_getElem hil)).c7
      have c4 := (hc n _ (List.getElem?_eq_getElem hn)).c4
      have hev := Lib.hid ((HA.out _ hW.out).evs _ (List.getElem_mem hil))
      obtain ⟨hok1, hok2⟩ := HOK.out _ (List.getElem_mem hil)
      have hst := Lib.hid (heap_take l n o hlt)
      have hsu : Hid (evSum l (o.take (k + 1)) = evSum l (o.take k) + l[i].evs.length) := Lib.hid (by
        rw [List.take_succ_eq_append_getElem hlt, evSum_append, hi]
        simp only [evSum, attN_get hil]; omega)
      have hsl := Lib.hid (evSum_take l o (k + 1))
      have hel := Lib.hid hok1.evs
      have hel2 := Lib.hid hok2
      have hstep : Hid (heapStep l (n : Int) ((o.take k).foldl (heapStep l n) (fun _ => 0)) o[k] = if (i : Int) ≠ (n : Int) ∧ l[i].pl ≤ l[n].ck then doV ((o.take k).foldl (heapStep l n) (fun _ => 0)) l[i].evs else (o.take k).foldl (heapStep l n) (fun _ => 0)) := Lib.hid (by
        unfold heapStep; rw [hi, attN_get hil, attN_get hn])
      rw [hi] at e1
      clear hgc hc hi hok1 hok2
      generalize hF0 : (o.take k).foldl (heapStep l n) (fun _ => 0) = F at *
      generalize l[i] = x at *
      generalize l[n] = y at *
      have p1 : (i : Int) < (l.length : Int) := by omega
      have p2 : (n : Int) < (l.length : Int) := by omega
      have p3 : (0 : Int) ≤ (i : Int) := Int.natCast_nonneg _
      have p4 : (0 : Int) ≤ (n : Int) := Int.natCast_nonneg _
      by_cases hin : i = n
      · have hF1 : Hid ((o.take (k + 1)).foldl (heapStep l n) (fun _ => 0) = F) := Lib.hid (by rw [hst.out, hstep.out, if_neg (by simp [hin])])
        have t1 : decide ((i : Int) = (n : Int)) = true := by simp; omega
        have hH3 : Hid (HeapAt Try.prog 2 wr w.heap.size (65 * evSum l (o.take (k + 1))) ((o.take (k + 1)).foldl (heapStep l n) (fun _ => 0))) := Lib.hid (by rw [hF1.out]; exact hH.out.mono (by rw [hsu.out]; omega))
        have t2 : ((i : Int) == (n : Int)) = true := by simp; omega
        clear hst hstep hF1 hH hsu
        subst hin
        go_wp2_with fail
        go_quiet (fail)
        go_wp2_with fail
        go_roundw
        case rel => exact ⟨k + 1, by go_num, by omega, Lib.hid (hH3.out.drewN _), Lib.hid (below_drewN hW.out _)⟩
        case measure => simp [intOf]; omega
      · have t1 : decide ((i : Int) = (n : Int)) = false := by simp; omega
        have t2 : ((i : Int) == (n : Int)) = false := by simp; omega
        have t2b : ¬ (i : Int) = (n : Int) := by omega
        have t2c : ((i : Int) != (n : Int)) = true := by simp; omega
        by_cases hpl : x.pl ≤ y.ck
        · have t3 : decide (x.pl ≤ y.ck) = true := by simp; omega
          have hF1 : Hid ((o.take (k + 1)).foldl (heapStep l n) (fun _ => 0) = doV F x.evs) := Lib.hid (by rw [hst.out, hstep.out, if_pos ⟨t2b, hpl⟩])
          have hxl : x.evs.length ≤ 1048576 := by have := hsu.out; have := hsl.out; omega
          have hDO := Lib.hid (fun (W : World) (h1 : HeapAt Try.prog 2 W w.heap.size (65 * evSum l (o.take k)) F) (h2 : EvsAt W w.heap.size x.dA x.evs) => do_any w.heap.size (65 * evSum l (o.take k)) w.heap.size x.dc F x.dA x.evs x.th hxl (by have := hsu.out; have := hsl.out; omega) (fun e he => ⟨hel.out e he, hel2.out e he⟩) W h1 h2 (Nat.le_refl _))
          have HF3 : Hid (∀ W, HeapAt Try.prog 2 W w.heap.size (65 * evSum l (o.take k) + x.evs.length * 65) (doV F x.evs) → HeapAt Try.prog 2 W w.heap.size (65 * evSum l (o.take (k + 1))) ((o.take (k + 1)).foldl (heapStep l n) (fun _ => 0))) := Lib.hid (fun W h => by rw [hF1.out]; exact h.mono (by rw [hsu.out]; omega))
          clear hst hstep hF1 hsu hsl hel hel2 hpl t2b
          go_wp2_with fail
          go_quiet (fail)
          go_wp2_with fail
          refine (hDO.out _ (hH.out.drewN _) (hev.out.keep (below_drewN (Below.refl _ _) _) (Nat.le_refl _))).mono ?_
          rintro e w2 ⟨rfl, hH2, hM2⟩
          have hH3 := Lib.hid (HF3.out _ hH2)
          have hW3 := Lib.hid ((below_drewN hW.out _).trans (hM2.below hW.out.size))
          clear hH2 hM2 hDO HF3 hev hH
          go_wp2_with fail
          go_roundw
          case rel => exact ⟨k + 1, by go_num, by omega, hH3, hW3⟩
          case measure => simp [intOf]; omega
        · have t3 : decide (x.pl ≤ y.ck) = false := by simp; omega
          have hF1 : Hid ((o.take (k + 1)).foldl (heapStep l n) (fun _ => 0) = F) := Lib.hid (by rw [hst.out, hstep.out, if_neg (fun h => hpl h.2)])
          have hH3 : Hid (HeapAt Try.prog 2 wr w.heap.size (65 * evSum l (o.take (k + 1))) ((o.take (k + 1)).foldl (heapStep l n) (fun _ => 0))) := Lib.hid (by rw [hF1.out]; exact hH.out.mono (by rw [hsu.out]; omega))
          clear hst hstep hF1 hsu hH hpl t2b
          go_wp2_with fail
          go_quiet (fail)
          go_wp2_with fail
          go_roundw
          case rel => exact ⟨k + 1, by go_num, by omega, Lib.hid (hH3.out.drewN _), Lib.hid (below_drewN hW.out _)⟩
          case measure => simp [intOf]; omega
    · have hkl : o.take k = o := List.take_of_length_le (by omega)
      rw [hkl] at hH
      have hE : Hid (HeapAt Try.prog 2 wr w.heap.size (65 * evSum l o) res) := Lib.hid (by rw [HV.out]; exact hH.out)
      clear hkl hH
      go_wp2_with fail
      go_ret
      exact ⟨rfl, hE.out, hW.out⟩
end Go.Proofs.Ytjaegddnikkibaa
