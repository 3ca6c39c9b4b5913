/-
  serial.Heap's Do walked.
-/
import Derived.Test.YtjaegddnikkibaaGreatDoorHeapMap
import Derived.Test.YtjaegddnikkibaaGreatDoorAttBase
import Derived.Test.YtjaegddnikkibaaGreatDoorMayEv
set_option linter.unusedVariables false
set_option linter.unusedSimpArgs false
namespace Go.Proofs.YtjaegddnikkibaaGreatDoor
open Go.RowKit Go.Sort Go.Maps

/-- all but block m is as it was -/
structure MapF (m : Nat) (w w' : World) : Prop where
  os : w'.os = w.os
  tape : w'.tape = w.tape
  output : w'.output = w.output
  size : w.heap.size ≤ w'.heap.size
  block : ∀ k, k < w.heap.size → k ≠ m → w'.heap[k]? = w.heap[k]?
theorem MapF.refl (m : Nat) (w : World) : MapF m w w := ⟨rfl, rfl, rfl, Nat.le_refl _, fun _ _ _ => rfl⟩
theorem MapF.trans {m : Nat} {a b c : World} (h : MapF m a b) (k : MapF m b c) : MapF m a c :=
  ⟨k.os.trans h.os, k.tape.trans h.tape, k.output.trans h.output, Nat.le_trans h.size k.size, fun i hi hm => (k.block i (Nat.lt_of_lt_of_le hi h.size) hm).trans (h.block i hi hm)⟩
theorem MapF.ofBelow {m : Nat} {w w' : World} (h : Below w.heap.size w w') : MapF m w w' := ⟨h.os, h.tape, h.output, h.size, fun k hk _ => h.block k hk⟩
theorem MapF.alloc {m : Nat} {a w : World} (h : MapF m a w) (o : Obj) : MapF m a (w.alloc o) := h.trans (.ofBelow ((Below.refl _ _).alloc (Nat.le_refl _) o))
theorem MapF.grown {m : Nat} {w w' : World} (h : w.grownBy w' (some m)) : MapF m w w' :=
  ⟨h.os, h.tape, h.output, h.size, fun k hk hm => h.block k hk (fun e => hm (by injection e))⟩
theorem MapF.below {m : Nat} {w w' : World} (h : MapF m w w') (hm : m ≤ w.heap.size) : Below m w w' := ⟨h.os, h.tape, h.output, h.size, fun k hk => h.block k (by omega) (by omega)⟩
theorem MapF.cell {m : Nat} {w w' : World} (h : MapF m w w') {p : Addr} (hp : p.block < w.heap.size) (hm : p.block ≠ m) : w'.cell? p = w.cell? p := World.cell?_of_block (w := w) (h.block p.block hp hm)
theorem EvsAt.keepM {m : Nat} {w w' : World} {B : Nat} {A : Option Addr} {es : List Ev} (h : EvsAt w B A es) (hf : MapF m w w') (hB : B ≤ m) (hm : m ≤ w.heap.size) : EvsAt w' B A es := h.keep ((hf.below hm).mono hB) (Nat.le_refl _)

theorem wf64 {x : Int} (h : i64ok x) : (Lit.int .i64 x).wf = true := by
  obtain ⟨h1, h2⟩ := h
  have e1 : IntKind.i64.min = -9223372036854775808 := by decide
  have e2 : IntKind.i64.max = 9223372036854775807 := by decide
  simp [Lit.wf, e1, e2, h1, h2]
theorem zero64 (w : World) : (zeroValue 2).run Tryz.prog w = .ok (.int .i64 0) w := by kernel_rfl
theorem HeapAt.lookD {w : World} {b n : Nat} {f : Int → Int} (h : HeapAt Tryz.prog 2 w b n f) {x : Int} (hx : i64ok x) :
    (Instr.lookup 88 (.map (some b)) (.int .i64 x) false).run Tryz.prog w = .ok (.int .i64 (f x)) w := h.look (by kernel_rfl) (by kernel_rfl) (zero64 w) (wf64 hx)
theorem HeapAt.putD {w : World} {b n : Nat} {f : Int → Int} (h : HeapAt Tryz.prog 2 w b n f) (hn : n < 100000000000) {x v : Int} (hx : i64ok x) (hv : i64ok v) :
    ∃ w', (Instr.mapUpdate 88 (.map (some b)) (.int .i64 x) (.int .i64 v)).run Tryz.prog w = .ok () w' ∧ HeapAt Tryz.prog 2 w' b (n + 1) (fun y => if y = x then v else f y) ∧ w.grownBy w' (some b) :=
  h.put (by kernel_rfl) (by kernel_rfl) (by unfold maxLen; omega) (wf64 hx) (wf64 hv)

theorem okV_step (f : Int → Int) {es : List Ev} {k : Nat} (h : k < es.length) : okV f (es.drop k) = ((if es[k].kd = 2 ∨ es[k].kd = 4 then f es[k].a == es[k].b else true) && okV (doEv f es[k]) (es.drop (k + 1))) := by
  rw [List.drop_eq_getElem_cons h]; rfl
theorem doV_step (f : Int → Int) {es : List Ev} {k : Nat} (h : k < es.length) : doV f (es.drop k) = doV (doEv f es[k]) (es.drop (k + 1)) := by
  rw [List.drop_eq_getElem_cons h]; rfl

set_option maxHeartbeats 2000000 in
set_option maxRecDepth 100000 in
theorem do_any (m n B cap : Nat) (f : Int → Int) (A : Option Addr) (es : List Ev) (th : Int) (hn : es.length ≤ 1048576) (hnn : n ≤ 10000000000) (hOk : ∀ e ∈ es, e.Ok ∧ evB th e = true) (w : World) (hm : HeapAt Tryz.prog 2 w m n f) (ha : EvsAt w B A es) (hB : B ≤ m) :
    Calls Tryz.prog 31 #[.map (some m), .slice A es.length cap] w fun e w' => e = .returned (.bool (okV f es)) ∧ HeapAt Tryz.prog 2 w' m (n + es.length * 65) (doV f es) ∧ MapF m w w' := by
  have hmlt := hm.lt
  have HA := Lib.hid (fun W (h : MapF m w W) => ha.keepM h hB (Nat.le_of_lt hmlt))
  have HO := Lib.hid hOk
  have HM0 := Lib.hid (hm.mono (n' := n + 0 * 65) (by omega))
  clear ha hOk hm
  go_enter Tryz.func31, Tryz.ntmps31
  go_wp2_with fail
  go_loopw [5, 11] (fun v i wr => ∃ (k : Nat) (ok : Bool) (g : Int → Int), i = .int .i64 k ∧ v = .bool ok ∧ k ≤ es.length ∧ Hid (okV f es = (ok && okV g (es.drop k))) ∧ Hid (doV f es = doV g (es.drop k)) ∧ Hid (HeapAt Tryz.prog 2 wr m (n + k * 65) g) ∧ Hid (MapF m w wr)) (fun _ i _ => es.length - (intOf i).toNat)
  case atStart => exact ⟨0, true, f, rfl, rfl, Nat.zero_le _, Lib.hid rfl, Lib.hid rfl, HM0, Lib.hid (MapF.refl _ _)⟩
  case round =>
    clear HM0
    obtain ⟨k, ok, g, rfl, rfl, hk, hok, hdo, hH, hF⟩ := hrel
    by_cases hlt : k < es.length
    · obtain ⟨b, off, rfl, _, hc⟩ := HA.out _ hF.out (by rintro rfl; simp at hlt)
      have hx := List.getElem?_eq_getElem hlt
      obtain ⟨c0, c1, c2, c3⟩ := hc k _ hx
      obtain ⟨hE, hev⟩ := HO.out _ (List.getElem_mem hlt)
      have hs1 := Lib.hid (okV_step g hlt)
      have hs2 := Lib.hid (doV_step g hlt)
      clear hc hx
      generalize es[k] = ev at *
      obtain ⟨eth, kd, a, bv⟩ := ev
      have hev2 := evB_iff.1 hev
      have hE2 := Lib.hid hE
      clear hE hev
      dsimp only at *
      have hok2 : Hid (okV f es = (ok && ((if kd = 2 ∨ kd = 4 then g a == bv else true) && okV (doEv g ⟨eth, kd, a, bv⟩) (es.drop (k + 1))))) := Lib.hid (by rw [hok.out, hs1.out])
      have hdo2 : Hid (doV f es = doV (doEv g ⟨eth, kd, a, bv⟩) (es.drop (k + 1))) := Lib.hid (by rw [hdo.out, hs2.out])
      clear hok hdo hs1 hs2
      obtain ⟨-, ha0, ha1, hkk⟩ := hev2
      have hia : i64ok a := ⟨by omega, by omega⟩
      have hib : i64ok bv := hE2.out.b
      obtain ⟨w0, hw0⟩ : ∃ w0, wr.alloc (.cells #[.int .i64 eth, .int .u8 kd, .int .i64 a, .int .i64 bv] 101 (0, 0)) = w0 := ⟨_, rfl⟩
      have hH0 : Hid (HeapAt Tryz.prog 2 w0 m (n + k * 65) g) := Lib.hid (by rw [← hw0]; exact hH.out.alloc _)
      have hF0 : Hid (MapF m w w0) := Lib.hid (by rw [← hw0]; exact hF.out.alloc _)
      have hl0 := hH0.out.lookD hia
      have d0 : w0.cell? ⟨wr.heap.size, 0, none⟩ = some (.int .i64 eth) := by rw [← hw0]; simp
      have d1 : w0.cell? ⟨wr.heap.size, 1, none⟩ = some (.int .u8 kd) := by rw [← hw0]; simp
      have d2 : w0.cell? ⟨wr.heap.size, 2, none⟩ = some (.int .i64 a) := by rw [← hw0]; simp
      have d3 : w0.cell? ⟨wr.heap.size, 3, none⟩ = some (.int .i64 bv) := by rw [← hw0]; simp
      have hX : wr.heap.size < w0.heap.size := by rw [← hw0]; simp
      have hXm : wr.heap.size ≠ m := by have := hH.out.lt; omega
      have hkd : kd = 2 ∨ kd = 4 ∨ kd = 3 ∨ kd = 5 ∨ kd = 6 := by omega
      rcases hkd with rfl | rfl | rfl | rfl | rfl
      · skip
        have eg : doEv g ⟨eth, 2, a, bv⟩ = g := by unfold doEv; rw [if_neg (by dsimp only; omega), if_neg (by dsimp only; omega)]
        have hok3 : Hid (okV f es = ((ok && (g a == bv)) && okV g (es.drop (k + 1)))) := Lib.hid (by rw [hok2.out, eg, if_pos (by omega), Bool.and_assoc])
        have hdo3 : Hid (doV f es = doV g (es.drop (k + 1))) := Lib.hid (by rw [hdo2.out, eg])
        have hH3 : Hid (HeapAt Tryz.prog 2 w0 m (n + (k + 1) * 65) g) := Lib.hid (hH0.out.mono (by omega))
        clear hok2 hdo2 hH hF hH0 hkk eg hia hib hE2
        cases ok
        · go_wp2_with fail
          go_roundw
          case rel => exact ⟨k + 1, false, g, by go_num, rfl, by omega, Lib.hid (by rw [hok3.out]; simp), hdo3, hH3, hF0⟩
          case measure => simp [intOf]; omega
        · go_wp2_with fail
          go_roundw
          case rel => exact ⟨k + 1, (g a == bv), g, by go_num, by first | rfl | simp, by omega, Lib.hid (by rw [hok3.out]; simp), hdo3, hH3, hF0⟩
          case measure => simp [intOf]; omega
      · skip
        have eg : doEv g ⟨eth, 4, a, bv⟩ = g := by unfold doEv; rw [if_neg (by dsimp only; omega), if_neg (by dsimp only; omega)]
        have hok3 : Hid (okV f es = ((ok && (g a == bv)) && okV g (es.drop (k + 1)))) := Lib.hid (by rw [hok2.out, eg, if_pos (by omega), Bool.and_assoc])
        have hdo3 : Hid (doV f es = doV g (es.drop (k + 1))) := Lib.hid (by rw [hdo2.out, eg])
        have hH3 : Hid (HeapAt Tryz.prog 2 w0 m (n + (k + 1) * 65) g) := Lib.hid (hH0.out.mono (by omega))
        clear hok2 hdo2 hH hF hH0 hkk eg hia hib hE2
        cases ok
        · go_wp2_with fail
          go_roundw
          case rel => exact ⟨k + 1, false, g, by go_num, rfl, by omega, Lib.hid (by rw [hok3.out]; simp), hdo3, hH3, hF0⟩
          case measure => simp [intOf]; omega
        · go_wp2_with fail
          go_roundw
          case rel => exact ⟨k + 1, (g a == bv), g, by go_num, by first | rfl | simp, by omega, Lib.hid (by rw [hok3.out]; simp), hdo3, hH3, hF0⟩
          case measure => simp [intOf]; omega
      · skip
        have hok3 : Hid (okV f es = (ok && okV (fun y => if y = a then bv else g y) (es.drop (k + 1)))) := Lib.hid (by
          rw [hok2.out, if_neg (by omega), Bool.true_and, show doEv g ⟨eth, 3, a, bv⟩ = fun y => if y = a then bv else g y by unfold doEv; rw [if_pos (by dsimp only; omega)]])
        have hdo3 : Hid (doV f es = doV (fun y => if y = a then bv else g y) (es.drop (k + 1))) := Lib.hid (by
          rw [hdo2.out, show doEv g ⟨eth, 3, a, bv⟩ = fun y => if y = a then bv else g y by unfold doEv; rw [if_pos (by dsimp only; omega)]])
        obtain ⟨w2, hrun, hH2, hg2⟩ := hH0.out.putD (by omega) hia hib
        have hH3 : Hid (HeapAt Tryz.prog 2 w2 m (n + (k + 1) * 65) (fun y => if y = a then bv else g y)) := Lib.hid (hH2.mono (by omega))
        have hF3 : Hid (MapF m w w2) := Lib.hid (hF0.out.trans (.grown hg2))
        clear hok2 hdo2 hH hF hH0 hF0 hkk hH2 hg2 hl0 hia hib hE2
        go_wp2_with fail
        go_roundw
        case rel => exact ⟨k + 1, ok, _, by go_num, rfl, by omega, hok3, hdo3, hH3, hF3⟩
        case measure => simp [intOf]; omega
      · skip
        have hok3 : Hid (okV f es = (ok && okV (fun y => if y = a then bv else g y) (es.drop (k + 1)))) := Lib.hid (by
          rw [hok2.out, if_neg (by omega), Bool.true_and, show doEv g ⟨eth, 5, a, bv⟩ = fun y => if y = a then bv else g y by unfold doEv; rw [if_pos (by dsimp only; omega)]])
        have hdo3 : Hid (doV f es = doV (fun y => if y = a then bv else g y) (es.drop (k + 1))) := Lib.hid (by
          rw [hdo2.out, show doEv g ⟨eth, 5, a, bv⟩ = fun y => if y = a then bv else g y by unfold doEv; rw [if_pos (by dsimp only; omega)]])
        obtain ⟨w2, hrun, hH2, hg2⟩ := hH0.out.putD (by omega) hia hib
        have hH3 : Hid (HeapAt Tryz.prog 2 w2 m (n + (k + 1) * 65) (fun y => if y = a then bv else g y)) := Lib.hid (hH2.mono (by omega))
        have hF3 : Hid (MapF m w w2) := Lib.hid (hF0.out.trans (.grown hg2))
        clear hok2 hdo2 hH hF hH0 hF0 hkk hH2 hg2 hl0 hia hib hE2
        go_wp2_with fail
        go_roundw
        case rel => exact ⟨k + 1, ok, _, by go_num, rfl, by omega, hok3, hdo3, hH3, hF3⟩
        case measure => simp [intOf]; omega
      · have eg : doEv g ⟨eth, 6, a, bv⟩ = fun y => if a ≤ y ∧ y < a + bv then 0 else g y := by unfold doEv; rw [if_neg (by dsimp only; omega), if_pos rfl]
        have hok3 : Hid (okV f es = (ok && okV (fun y => if a ≤ y ∧ y < a + bv then 0 else g y) (es.drop (k + 1)))) := Lib.hid (by rw [hok2.out, if_neg (by omega), Bool.true_and, eg])
        have hdo3 : Hid (doV f es = doV (fun y => if a ≤ y ∧ y < a + bv then 0 else g y) (es.drop (k + 1))) := Lib.hid (by rw [hdo2.out, eg])
        obtain ⟨b0, b1, b2⟩ : 0 ≤ bv ∧ bv ≤ 64 ∧ a + bv ≤ 262144 := by omega
        have hS0 : Hid (HeapAt Tryz.prog 2 w0 m (n + k * 65 + 0) (fun y => if a ≤ y ∧ y < a + ((0 : Nat) : Int) then 0 else g y)) := Lib.hid (hH0.out.congr (fun x => by rw [if_neg (by omega)]))
        have D2 := Lib.hid (fun W (h : MapF m w0 W) => (h.cell (p := ⟨wr.heap.size, 2, none⟩) hX hXm).trans d2)
        clear hok2 hdo2 hH hF hH0 hkk hl0 eg hia hib hE2
        go_wp2_with fail
        clear hw0 d0 d1 d2 d3 hX hXm
        obtain ⟨wo, rfl⟩ : ∃ wo : World, wo = wr := ⟨_, rfl⟩
        go_loopw [42] (fun i wr2 => ∃ j : Nat, i = .int .i64 j ∧ (j : Int) ≤ bv ∧ Hid (HeapAt Tryz.prog 2 wr2 m (n + k * 65 + j) (fun y => if a ≤ y ∧ y < a + (j : Int) then 0 else g y)) ∧ Hid (MapF m w0 wr2)) (fun i _ => bv.toNat - (intOf i).toNat)
        case atStart => exact ⟨0, rfl, by omega, hS0, Lib.hid (MapF.refl _ _)⟩
        case round =>
          clear hS0
          obtain ⟨j, rfl, hj, hG, hF2⟩ := hrel
          have d2 := D2.out _ hF2.out
          by_cases hjb : (j : Int) < bv
          · have p1 : (0 : Int) ≤ (j : Int) := Int.natCast_nonneg _
            obtain ⟨w2, hrun, hH2, hg2⟩ := hG.out.putD (x := a + (j : Int)) (v := 0) (by omega) ⟨by omega, by omega⟩ ⟨by omega, by omega⟩
            have hG2 : Hid (HeapAt Tryz.prog 2 w2 m (n + k * 65 + (j + 1)) (fun y => if a ≤ y ∧ y < a + ((j + 1 : Nat) : Int) then 0 else g y)) := Lib.hid (hH2.congr (fun y => by
              by_cases h1 : y = a + (j : Int)
              · rw [if_pos h1, if_pos (by omega)]
              · rw [if_neg h1]
                by_cases h2 : a ≤ y ∧ y < a + (j : Int)
                · rw [if_pos h2, if_pos (by omega)]
                · rw [if_neg h2, if_neg (by omega)]))
            have hF3 : Hid (MapF m w0 w2) := Lib.hid (hF2.out.trans (.grown hg2))
            clear hH2 hg2 hG hF2
            go_wp2_with fail
            go_roundw
            case rel => exact ⟨j + 1, by go_num, by omega, hG2, hF3⟩
            case measure => simp [intOf]; omega
          · obtain rfl : (j : Int) = bv := by omega
            have hH3 : Hid (HeapAt Tryz.prog 2 wr m (n + (k + 1) * 65) (fun y => if a ≤ y ∧ y < a + (j : Int) then 0 else g y)) := Lib.hid (hG.out.mono (by omega))
            have hF3 : Hid (MapF m w wr) := Lib.hid (hF0.out.trans hF2.out)
            clear hG hF2
            go_wp2_with fail
            go_roundw
            case rel => exact ⟨k + 1, ok, _, by go_num, rfl, by omega, hok3, hdo3, hH3, hF3⟩
            case measure => simp [intOf]; omega
    · have F : Hid (ok = okV f es) := Lib.hid (by rw [hok.out, List.drop_eq_nil_of_le (by omega)]; simp [okV])
      have hkl : k = es.length := by omega
      have HE : Hid (HeapAt Tryz.prog 2 wr m (n + es.length * 65) (doV f es)) := Lib.hid (by rw [hdo.out, List.drop_eq_nil_of_le (by omega), ← hkl]; exact hH.out)
      clear hkl hok hdo
      go_wp2_with fail
      go_ret
      exact ⟨ret_bool F.out, HE.out, hF.out⟩
end Go.Proofs.YtjaegddnikkibaaGreatDoor
