/-
  serial.Heap's Do walked, with the words that were written.
-/
import Derived.Test.YtjaegddnikkibaaGreatDoorHeapDo
set_option linter.unusedVariables false
set_option linter.unusedSimpArgs false
namespace Go.Proofs.YtjaegddnikkibaaGreatDoor
open Go.RowKit Go.Sort Go.Maps

/-- block b is a map of at most n entries that reads as f; none: no such key -/
def HeapK (P : Program) (k : TypeId) (w : World) (b n : Nat) (f : Int → Option Int) : Prop :=
  ∃ D : DataW Unit, w.ownsMap P k (plainElem P k) b n D ∧ ∀ x, (Lit.int .i64 x).wf = true → has D (.int .i64 x) = (f x).isSome ∧ D.atKey (.int .i64 x) (.lit (.int .i64 0)) = .lit (.int .i64 ((f x).getD 0))
section
variable {P : Program} {k t : TypeId} {w : World} {b n : Nat} {f : Int → Option Int}
theorem HeapK.made (P : Program) (k : TypeId) (w : World) : HeapK P k (w.alloc (.map #[] 0)) w.heap.size 0 (fun _ => none) :=
  ⟨_, World.ownsMap_made w P k _, fun _ _ => ⟨rfl, rfl⟩⟩
theorem HeapK.drewN (h : HeapK P k w b n f) (q : Nat) : HeapK P k (w.drewN q) b n f := h
theorem HeapK.of_block {w' : World} (h : HeapK P k w b n f) (hb : w'.heap[b]? = w.heap[b]?) : HeapK P k w' b n f := by
  obtain ⟨D, ⟨es, clock, h1, h2⟩, h3⟩ := h
  exact ⟨D, ⟨es, clock, hb.trans h1, h2⟩, h3⟩
theorem HeapK.lt (h : HeapK P k w b n f) : b < w.heap.size := by
  obtain ⟨D, ⟨es, clock, h1, h2⟩, h3⟩ := h
  exact (Array.getElem?_eq_some_iff.1 h1).1
theorem HeapK.below {w' : World} (h : HeapK P k w b n f) {B : Nat} (hb : Below B w w') (hB : b < B) : HeapK P k w' b n f := h.of_block (hb.block b hB)
theorem HeapK.alloc (h : HeapK P k w b n f) (o : Obj) : HeapK P k (w.alloc o) b n f := h.below (B := w.heap.size) ((Below.refl _ _).alloc (Nat.le_refl _) o) h.lt
theorem HeapK.mono (h : HeapK P k w b n f) {n' : Nat} (hn : n ≤ n') : HeapK P k w b n' f := by
  obtain ⟨D, h1, h2⟩ := h
  exact ⟨D, h1.mono hn, h2⟩
theorem HeapK.congr {g : Int → Option Int} (h : HeapK P k w b n f) (hg : ∀ x, f x = g x) : HeapK P k w b n g := by
  have : f = g := funext hg
  subst this; exact h
theorem HeapK.look (h : HeapK P k w b n f) (ht : P.underlying t = some (.map k k)) (hk : P.underlying k = some (.int .i64)) (hz : (zeroValue k).run P w = .ok (.int .i64 0) w) {x : Int} (hx : (Lit.int .i64 x).wf = true) :
    (Instr.lookup t (.map (some b)) (.int .i64 x) false).run P w = .ok (.int .i64 ((f x).getD 0)) w := by
  obtain ⟨D, h1, h2⟩ := h
  obtain ⟨c, hr, hat, -⟩ := h1.lookup_int (int_keyed hk) ht hk hz (keyOf_int_mk hk hx)
  rw [(h2 x hx).2] at hat
  injection hat with hat
  injection hat with _ hat
  rw [hr, hat]
theorem HeapK.put (h : HeapK P k w b n f) (ht : P.underlying t = some (.map k k)) (hk : P.underlying k = some (.int .i64)) (hn : n < maxLen) {x v : Int} (hx : (Lit.int .i64 x).wf = true) (hv : (Lit.int .i64 v).wf = true) :
    ∃ w', (Instr.mapUpdate t (.map (some b)) (.int .i64 x) (.int .i64 v)).run P w = .ok () w' ∧ HeapK P k w' b (n + 1) (fun y => if y = x then some v else f y) ∧ w.grownBy w' (some b) := by
  obtain ⟨D, h1, h2⟩ := h
  have hkey := keyOf_int_mk hk hx
  obtain ⟨w', hr, ho, hg⟩ := h1.update (int_keyed hk) ht hn hkey (plainElem_int hk hv)
  refine ⟨w', hr, ⟨_, ho, fun y hy => ?_⟩, hg⟩
  by_cases hyx : y = x
  · subst hyx
    simp only [if_true]
    exact ⟨by rw [has_put_same h1.isMap ((int_keyed hk).key hkey)]; rfl, atKey_put_same h1.isMap ((int_keyed hk).key hkey) _ _⟩
  · simp only [if_neg hyx]
    have hne : (Lit.int .i64 y) ≠ .int .i64 x := fun e => hyx (by injection e)
    rw [atKey_put_other hne _ _, has_put_other hne _]
    exact h2 y hy
end
theorem HeapK.lookD {w : World} {b n : Nat} {f : Int → Option Int} (h : HeapK Tryz.prog 2 w b n f) {x : Int} (hx : i64ok x) :
    (Instr.lookup 88 (.map (some b)) (.int .i64 x) false).run Tryz.prog w = .ok (.int .i64 ((f x).getD 0)) w := h.look (by kernel_rfl) (by kernel_rfl) (zero64 w) (wf64 hx)
theorem HeapK.putD {w : World} {b n : Nat} {f : Int → Option Int} (h : HeapK Tryz.prog 2 w b n f) (hn : n < 100000000000) {x v : Int} (hx : i64ok x) (hv : i64ok v) :
    ∃ w', (Instr.mapUpdate 88 (.map (some b)) (.int .i64 x) (.int .i64 v)).run Tryz.prog w = .ok () w' ∧ HeapK Tryz.prog 2 w' b (n + 1) (fun y => if y = x then some v else f y) ∧ w.grownBy w' (some b) :=
  h.put (by kernel_rfl) (by kernel_rfl) (by unfold maxLen; omega) (wf64 hx) (wf64 hv)

/-- words and whether they were written: what an event makes of them -/
def doEvK (h : Int → Option Int) (e : Ev) : Int → Option Int :=
  if e.kd = 3 ∨ e.kd = 5 then fun x => if x = e.a then some e.b else h x
  else if e.kd = 6 then fun x => if e.a ≤ x ∧ x < e.a + e.b then some 0 else h x
  else h
def doVK (h : Int → Option Int) (es : List Ev) : Int → Option Int := es.foldl doEvK h
theorem doVK_step (f : Int → Option Int) {es : List Ev} {k : Nat} (h : k < es.length) : doVK f (es.drop k) = doVK (doEvK f es[k]) (es.drop (k + 1)) := by
  rw [List.drop_eq_getElem_cons h]; rfl

set_option maxHeartbeats 2000000 in
set_option maxRecDepth 100000 in
theorem doK_any (m n B cap : Nat) (f : Int → Option Int) (A : Option Addr) (es : List Ev) (th : Int) (hn : es.length ≤ 1048576) (hnn : n ≤ 10000000000) (hOk : ∀ e ∈ es, e.Ok ∧ evB th e = true) (w : World) (hm : HeapK Tryz.prog 2 w m n f) (ha : EvsAt w B A es) (hB : B ≤ m) :
    Calls Tryz.prog 31 #[.map (some m), .slice A es.length cap] w fun e w' => (∃ b, e = .returned (.bool b)) ∧ HeapK Tryz.prog 2 w' m (n + es.length * 65) (doVK f es) ∧ MapF m w w' := by
  have hmlt := hm.lt
  have HA := Lib.hid (fun W (h : MapF m w W) => ha.keepM h hB (Nat.le_of_lt hmlt))
  have HO := Lib.hid hOk
  have HM0 := Lib.hid (hm.mono (n' := n + 0 * 65) (by omega))
  clear ha hOk hm
  go_enter Tryz.func31, Tryz.ntmps31
  go_wp2_with fail
  go_loopw [5, 11] (fun v i wr => ∃ (k : Nat) (ok : Bool) (g : Int → Option Int), i = .int .i64 k ∧ v = .bool ok ∧ k ≤ es.length ∧ Hid (doVK f es = doVK g (es.drop k)) ∧ Hid (HeapK Tryz.prog 2 wr m (n + k * 65) g) ∧ Hid (MapF m w wr)) (fun _ i _ => es.length - (intOf i).toNat)
  case atStart => exact ⟨0, true, f, rfl, rfl, Nat.zero_le _, Lib.hid rfl, HM0, Lib.hid (MapF.refl _ _)⟩
  case round =>
    clear HM0
    obtain ⟨k, ok, g, rfl, rfl, hk, hdo, hH, hF⟩ := hrel
    by_cases hlt : k < es.length
    · obtain ⟨b, off, rfl, _, hc⟩ := HA.out _ hF.out (by rintro rfl; simp at hlt)
      have hx := List.getElem?_eq_getElem hlt
      obtain ⟨c0, c1, c2, c3⟩ := hc k _ hx
      obtain ⟨hE, hev⟩ := HO.out _ (List.getElem_mem hlt)
      have hs2 := Lib.hid (doVK_step g hlt)
      clear hc hx
      generalize es[k] = ev at *
      obtain ⟨eth, kd, a, bv⟩ := ev
      have hev2 := evB_iff.1 hev
      have hE2 := Lib.hid hE
      clear hE hev
      dsimp only at *
      have hdo2 : Hid (doVK f es = doVK (doEvK g ⟨eth, kd, a, bv⟩) (es.drop (k + 1))) := Lib.hid (by rw [hdo.out, hs2.out])
      clear hdo hs2
      obtain ⟨-, ha0, ha1, hkk⟩ := hev2
      have hia : i64ok a := ⟨by omega, by omega⟩
      have hib : i64ok bv := hE2.out.b
      obtain ⟨w0, hw0⟩ : ∃ w0, wr.alloc (.cells #[.int .i64 eth, .int .u8 kd, .int .i64 a, .int .i64 bv] 101 (0, 0)) = w0 := ⟨_, rfl⟩
      have hH0 : Hid (HeapK Tryz.prog 2 w0 m (n + k * 65) g) := Lib.hid (by rw [← hw0]; exact hH.out.alloc _)
      have hF0 : Hid (MapF m w w0) := Lib.hid (by rw [← hw0]; exact hF.out.alloc _)
      have hl0 := hH0.out.lookD hia
      have d0 : w0.cell? ⟨wr.heap.size, 0, none⟩ = some (.int .i64 eth) := by rw [← hw0]; simp
      have d1 : w0.cell? ⟨wr.heap.size, 1, none⟩ = some (.int .u8 kd) := by rw [← hw0]; simp
      have d2 : w0.cell? ⟨wr.heap.size, 2, none⟩ = some (.int .i64 a) := by rw [← hw0]; simp
      have d3 : w0.cell? ⟨wr.heap.size, 3, none⟩ = some (.int .i64 bv) := by rw [← hw0]; simp
      have hX : wr.heap.size < w0.heap.size := by rw [← hw0]; simp
      have hXm : wr.heap.size ≠ m := by have := hH.out.lt; omega
      have hkd : kd = 2 ∨ kd = 4 ∨ kd = 3 ∨ kd = 5 ∨ kd = 6 := by omega
      rcases hkd with rfl | rfl | rfl | rfl | rfl
      · skip
        have eg : doEvK g ⟨eth, 2, a, bv⟩ = g := by unfold doEvK; rw [if_neg (by dsimp only; omega), if_neg (by dsimp only; omega)]
        have hdo3 : Hid (doVK f es = doVK g (es.drop (k + 1))) := Lib.hid (by rw [hdo2.out, eg])
        have hH3 : Hid (HeapK Tryz.prog 2 w0 m (n + (k + 1) * 65) g) := Lib.hid (hH0.out.mono (by omega))
        clear hdo2 hH hF hH0 hkk eg hia hib hE2
        cases ok
        · go_wp2_with fail
          go_roundw
          case rel => exact ⟨k + 1, false, g, by go_num, rfl, by omega, hdo3, hH3, hF0⟩
          case measure => simp [intOf]; omega
        · go_wp2_with fail
          go_roundw
          case rel => exact ⟨k + 1, ((g a).getD 0 == bv), g, by go_num, by first | rfl | simp, by omega, hdo3, hH3, hF0⟩
          case measure => simp [intOf]; omega
      · skip
        have eg : doEvK g ⟨eth, 4, a, bv⟩ = g := by unfold doEvK; rw [if_neg (by dsimp only; omega), if_neg (by dsimp only; omega)]
        have hdo3 : Hid (doVK f es = doVK g (es.drop (k + 1))) := Lib.hid (by rw [hdo2.out, eg])
        have hH3 : Hid (HeapK Tryz.prog 2 w0 m (n + (k + 1) * 65) g) := Lib.hid (hH0.out.mono (by omega))
        clear hdo2 hH hF hH0 hkk eg hia hib hE2
        cases ok
        · go_wp2_with fail
          go_roundw
          case rel => exact ⟨k + 1, false, g, by go_num, rfl, by omega, hdo3, hH3, hF0⟩
          case measure => simp [intOf]; omega
        · go_wp2_with fail
          go_roundw
          case rel => exact ⟨k + 1, ((g a).getD 0 == bv), g, by go_num, by first | rfl | simp, by omega, hdo3, hH3, hF0⟩
          case measure => simp [intOf]; omega
      · skip
        have hdo3 : Hid (doVK f es = doVK (fun y => if y = a then some bv else g y) (es.drop (k + 1))) := Lib.hid (by
          rw [hdo2.out, show doEvK g ⟨eth, 3, a, bv⟩ = fun y => if y = a then some bv else g y by unfold doEvK; rw [if_pos (by dsimp only; omega)]])
        obtain ⟨w2, hrun, hH2, hg2⟩ := hH0.out.putD (by omega) hia hib
        have hH3 : Hid (HeapK Tryz.prog 2 w2 m (n + (k + 1) * 65) (fun y => if y = a then some bv else g y)) := Lib.hid (hH2.mono (by omega))
        have hF3 : Hid (MapF m w w2) := Lib.hid (hF0.out.trans (.grown hg2))
        clear hdo2 hH hF hH0 hF0 hkk hH2 hg2 hl0 hia hib hE2
        go_wp2_with fail
        go_roundw
        case rel => exact ⟨k + 1, ok, _, by go_num, rfl, by omega, hdo3, hH3, hF3⟩
        case measure => simp [intOf]; omega
      · skip
        have hdo3 : Hid (doVK f es = doVK (fun y => if y = a then some bv else g y) (es.drop (k + 1))) := Lib.hid (by
          rw [hdo2.out, show doEvK g ⟨eth, 5, a, bv⟩ = fun y => if y = a then some bv else g y by unfold doEvK; rw [if_pos (by dsimp only; omega)]])
        obtain ⟨w2, hrun, hH2, hg2⟩ := hH0.out.putD (by omega) hia hib
        have hH3 : Hid (HeapK Tryz.prog 2 w2 m (n + (k + 1) * 65) (fun y => if y = a then some bv else g y)) := Lib.hid (hH2.mono (by omega))
        have hF3 : Hid (MapF m w w2) := Lib.hid (hF0.out.trans (.grown hg2))
        clear hdo2 hH hF hH0 hF0 hkk hH2 hg2 hl0 hia hib hE2
        go_wp2_with fail
        go_roundw
        case rel => exact ⟨k + 1, ok, _, by go_num, rfl, by omega, hdo3, hH3, hF3⟩
        case measure => simp [intOf]; omega
      · have eg : doEvK g ⟨eth, 6, a, bv⟩ = fun y => if a ≤ y ∧ y < a + bv then some 0 else g y := by unfold doEvK; rw [if_neg (by dsimp only; omega), if_pos rfl]
        have hdo3 : Hid (doVK f es = doVK (fun y => if a ≤ y ∧ y < a + bv then some 0 else g y) (es.drop (k + 1))) := Lib.hid (by rw [hdo2.out, eg])
        obtain ⟨b0, b1, b2⟩ : 0 ≤ bv ∧ bv ≤ 64 ∧ a + bv ≤ 262144 := by omega
        have hS0 : Hid (HeapK Tryz.prog 2 w0 m (n + k * 65 + 0) (fun y => if a ≤ y ∧ y < a + ((0 : Nat) : Int) then some 0 else g y)) := Lib.hid (hH0.out.congr (fun x => by rw [if_neg (by omega)]))
        have D2 := Lib.hid (fun W (h : MapF m w0 W) => (h.cell (p := ⟨wr.heap.size, 2, none⟩) hX hXm).trans d2)
        clear hdo2 hH hF hH0 hkk hl0 eg hia hib hE2
        go_wp2_with fail
        clear hw0 d0 d1 d2 d3 hX hXm
        obtain ⟨wo, rfl⟩ : ∃ wo : World, wo = wr := ⟨_, rfl⟩
        go_loopw [42] (fun i wr2 => ∃ j : Nat, i = .int .i64 j ∧ (j : Int) ≤ bv ∧ Hid (HeapK Tryz.prog 2 wr2 m (n + k * 65 + j) (fun y => if a ≤ y ∧ y < a + (j : Int) then some 0 else g y)) ∧ Hid (MapF m w0 wr2)) (fun i _ => bv.toNat - (intOf i).toNat)
        case atStart => exact ⟨0, rfl, by omega, hS0, Lib.hid (MapF.refl _ _)⟩
        case round =>
          clear hS0
          obtain ⟨j, rfl, hj, hG, hF2⟩ := hrel
          have d2 := D2.out _ hF2.out
          by_cases hjb : (j : Int) < bv
          · have p1 : (0 : Int) ≤ (j : Int) := Int.natCast_nonneg _
            obtain ⟨w2, hrun, hH2, hg2⟩ := hG.out.putD (x := a + (j : Int)) (v := 0) (by omega) ⟨by omega, by omega⟩ ⟨by omega, by omega⟩
            have hG2 : Hid (HeapK Tryz.prog 2 w2 m (n + k * 65 + (j + 1)) (fun y => if a ≤ y ∧ y < a + ((j + 1 : Nat) : Int) then some 0 else g y)) := Lib.hid (hH2.congr (fun y => by
              by_cases h1 : y = a + (j : Int)
              · rw [if_pos h1, if_pos (by omega)]
              · rw [if_neg h1]
                by_cases h2 : a ≤ y ∧ y < a + (j : Int)
                · rw [if_pos h2, if_pos (by omega)]
                · rw [if_neg h2, if_neg (by omega)]))
            have hF3 : Hid (MapF m w0 w2) := Lib.hid (hF2.out.trans (.grown hg2))
            clear hH2 hg2 hG hF2
            go_wp2_with fail
            go_roundw
            case rel => exact ⟨j + 1, by go_num, by omega, hG2, hF3⟩
            case measure => simp [intOf]; omega
          · obtain rfl : (j : Int) = bv := by omega
            have hH3 : Hid (HeapK Tryz.prog 2 wr m (n + (k + 1) * 65) (fun y => if a ≤ y ∧ y < a + (j : Int) then some 0 else g y)) := Lib.hid (hG.out.mono (by omega))
            have hF3 : Hid (MapF m w wr) := Lib.hid (hF0.out.trans hF2.out)
            clear hG hF2
            go_wp2_with fail
            go_roundw
            case rel => exact ⟨k + 1, ok, _, by go_num, rfl, by omega, hdo3, hH3, hF3⟩
            case measure => simp [intOf]; omega
    · have hkl : k = es.length := by omega
      have HE : Hid (HeapK Tryz.prog 2 wr m (n + es.length * 65) (doVK f es)) := Lib.hid (by rw [hdo.out, List.drop_eq_nil_of_le (by omega), ← hkl]; exact hH.out)
      clear hkl hdo
      go_wp2_with fail
      go_ret
      exact ⟨⟨_, rfl⟩, HE.out, hF.out⟩
end Go.Proofs.YtjaegddnikkibaaGreatDoor
