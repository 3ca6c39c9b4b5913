/-
  SameOps at lists that are alike; law18.alive.
-/
import Derived.Test.YtkkcngppmhebbaaGreatDoorAsmParse
import Derived.Test.YtkkcngppmhebbaaGreatDoorAsmText
import Derived.Test.YtkkcngppmhebbaaGreatDoorAsmLaw
set_option linter.unusedVariables false
set_option linter.unusedSimpArgs false
namespace Go.Proofs.YtkkcngppmhebbaaGreatDoor
open Go.RowKit

theorem cmds_of_own {w : World} {B n : Nat} {v : Value} {l : List Cmd} (h : w.ownsRow B 79 6 v n (l.flatMap Cmd.cells)) (hn : n = l.length) : ∃ A c, v = .slice A l.length c ∧ CmdsAt w w.heap.size A l := by
  subst hn
  rcases h.2 with ⟨rfl, hn⟩ | ⟨g, cap, cur, rfl, hg, hb, r⟩
  · have : l = [] := List.eq_nil_of_length_eq_zero hn
    subst this
    exact ⟨none, 0, rfl, fun h => absurd rfl h⟩
  · refine ⟨some ⟨g, 0, none⟩, cap, rfl, fun _ => ⟨g, 0, rfl, (Array.getElem?_eq_some_iff.1 hb).1, fun k x hk => ?_⟩⟩
    have hf := fun j (hj : j < 6) => flat_at Cmd.cells 6 (fun _ => rfl) l k j x hk hj
    have hadd : ∀ i, (⟨g, 0, none⟩ : Addr).add i = ⟨g, i, none⟩ := fun i => by unfold Addr.add; split <;> simp_all
    have key : ∀ j (hj : j < 6) u, x.cells[j]? = some u → w.cell? ⟨g, 0 + k * 6 + j, none⟩ = some u := fun j hj u hu => by
      have := h.cells (g := g) rfl (k * 6 + j) u (by rw [hf j hj]; exact hu)
      rw [hadd] at this
      rw [Nat.zero_add]; exact this
    exact ⟨key 0 (by decide) _ rfl, key 1 (by decide) _ rfl, key 2 (by decide) _ rfl, key 3 (by decide) _ rfl, key 4 (by decide) _ rfl, key 5 (by decide) _ rfl⟩
theorem hc_keep {w w' : World} {A : Option Addr} {l : List Cmd} (h : CmdsAt w w.heap.size A l) (hb : Below w.heap.size w w') : CmdsAt w' w'.heap.size A l := fun hne => by
  obtain ⟨b, off, e, hlt, hc⟩ := h hne
  exact ⟨b, off, e, Nat.lt_of_lt_of_le hlt hb.size, fun k x hk => (hc k x hk).mono hb hlt⟩
theorem ParsedIs.ok {R : List Cmd ⊕ (Nat × Int)} {H : Nat} {e : Ending} {w' : World} {l : List Cmd} (h : ParsedIs R H e w') (hR : R = .inl l) :
    ∃ A c, e = .returned (.tuple #[.slice A l.length c, .int .i64 0, .int .i64 0]) ∧ CmdsAt w' w'.heap.size A l := by
  subst hR
  obtain ⟨v, he, ho⟩ := h
  obtain ⟨A, c, rfl, hc⟩ := cmds_of_own ho rfl
  exact ⟨A, c, he, hc⟩
theorem ParsedIs.bad {R : List Cmd ⊕ (Nat × Int)} {H : Nat} {e : Ending} {w' : World} {n : Nat} {er : Int} (h : ParsedIs R H e w') (hR : R = .inr (n, er)) :
    e = .returned (.tuple #[.slice none 0 0, .int .i64 n, .int .i64 er]) := by
  subst hR
  exact h

set_option maxHeartbeats 4000000 in
set_option maxRecDepth 100000 in
theorem sameOps_eq (A B : Option Addr) (c d : Nat) (l : List Cmd) (w : World) (h1 : CmdsAt w w.heap.size A l) (h2 : CmdsAt w w.heap.size B l) (hn : l.length ≤ 1000000000) :
    Calls Tryz.prog 6 #[.slice A l.length c, .slice B l.length d] w fun e w' => e = .returned (.bool true) ∧ ∃ k, w' = w.drewN k := by
  have HR1 := Lib.hid h1
  have HR2 := Lib.hid h2
  clear h1 h2
  go_enter Tryz.func6, Tryz.ntmps6
  go_wp2_with fail
  go_loopw [13] (fun i wr => ∃ k : Nat, k ≤ l.length ∧ i = .int .i64 k ∧ Hid (∃ q, wr = w.drewN q)) (fun i _ => l.length - (intOf i).toNat)
  case atStart => exact ⟨0, Nat.zero_le _, rfl, ⟨0, rfl⟩⟩
  case round =>
    obtain ⟨k, hk, rfl, hq⟩ := hrel
    obtain ⟨q, rfl⟩ := hq.out
    clear hq
    by_cases hlt : k < l.length
    · obtain ⟨g1, o1, rfl, -, hc1⟩ := HR1.out (by rintro rfl; simp at hlt)
      obtain ⟨g2, o2, rfl, -, hc2⟩ := HR2.out (by rintro rfl; simp at hlt)
      have ht1 := hc1 k _ (List.getElem?_eq_getElem hlt)
      have ht2 := hc2 k _ (List.getElem?_eq_getElem hlt)
      clear hc1 hc2
      generalize l[k] = t at *
      obtain ⟨a0, a1, a2, a3, a4, a5⟩ := ht1
      obtain ⟨b0, b1, b2, b3, b4, b5⟩ := ht2
      have p1 : (0 : Int) ≤ (k : Int) := Int.natCast_nonneg _
      have p2 : (k : Int) < (l.length : Int) := by omega
      go_wp2_with fail
      go_quiet (fail)
      go_wp2_with fail
      go_roundw
      case rel => exact ⟨k + 1, by omega, by go_num, ⟨_, rfl⟩⟩
      case measure => simp [intOf]; omega
    · go_wp2_with fail
      go_ret
      exact ⟨rfl, q, rfl⟩

def alT1 : List UInt8 := [97, 58, 32, 35, 32, 120, 10, 115, 101, 116, 32, 114, 49, 32, 53, 10, 106, 117, 109, 112, 32, 98, 10, 122, 101, 114, 111, 32, 114, 49, 32, 97, 10, 98, 58]
def alT2 : List UInt8 := [104, 97, 108, 116, 10, 115, 101, 116, 32, 114, 56, 32, 49]
theorem alive_1 : parseA alT1 = .inl [⟨1, 0, 1, 0, 0, 5⟩, ⟨6, 0, 0, 0, 0, 3⟩, ⟨7, 0, 1, 0, 0, 0⟩] := by kernel_rfl
theorem alive_2 : parseA alT2 = .inr (1, 13) := by kernel_rfl
theorem alive_3 : textA [⟨3, 1, 1, 2, 0, 0⟩] = ([99, 97, 108, 99, 32, 97, 100, 100, 32, 114, 49, 32, 114, 50, 10], 0) := by kernel_rfl

set_option maxHeartbeats 4000000 in
set_option maxRecDepth 100000 in
theorem alive18_any (w : World) (G : AGlobs w) : Calls Tryz.prog 9 #[] w fun e w' => e = .returned (.bool true) ∧ Below w.heap.size w w' := by
  have HG := Lib.hid G
  clear G
  have C1 : Hid (∀ W, AGlobs W → Calls Tryz.prog 4 #[.string ⟨#[97, 58, 32, 35, 32, 120, 10, 115, 101, 116, 32, 114, 49, 32, 53, 10, 106, 117, 109, 112, 32, 98, 10, 122, 101, 114, 111, 32, 114, 49, 32, 97, 10, 98, 58]⟩] W fun e w' => (∃ A c, e = .returned (.tuple #[.slice A 3 c, .int .i64 0, .int .i64 0]) ∧ CmdsAt w' w'.heap.size A [⟨1, 0, 1, 0, 0, 5⟩, ⟨6, 0, 0, 0, 0, 3⟩, ⟨7, 0, 1, 0, 0, 0⟩]) ∧ Below W.heap.size W w') :=
    Lib.hid fun W GW => (aparse_any alT1 (by decide) W GW).mono fun e w' h => ⟨h.1.ok alive_1, h.2⟩
  have C2 : Hid (∀ W, AGlobs W → Calls Tryz.prog 4 #[.string ⟨#[104, 97, 108, 116, 10, 115, 101, 116, 32, 114, 56, 32, 49]⟩] W fun e w' => e = .returned (.tuple #[.slice none 0 0, .int .i64 1, .int .i64 13]) ∧ Below W.heap.size W w') :=
    Lib.hid fun W GW => (aparse_any alT2 (by decide) W GW).mono fun e w' h => ⟨h.1.bad alive_2, h.2⟩
  have C3 : Hid (∀ W A c, AGlobs W → CmdsAt W W.heap.size A [⟨3, 1, 1, 2, 0, 0⟩] → Calls Tryz.prog 102 #[.slice A 1 c] W fun e w' => e = .returned (.tuple #[.string ⟨#[99, 97, 108, 99, 32, 97, 100, 100, 32, 114, 49, 32, 114, 50, 10]⟩, .int .i64 0]) ∧ Below W.heap.size W w') :=
    Lib.hid fun W A c GW hc => (atext_any A c [⟨3, 1, 1, 2, 0, 0⟩] W GW hc (by intro x hx; rw [List.mem_singleton] at hx; subst hx; constructor <;> decide) (by decide)).mono fun e w' h => by rw [alive_3] at h; exact h
  go_enter Tryz.func9, Tryz.ntmps9
  go_wp2_with fail
  refine (C1.out _ HG.out).mono ?_
  rintro e w1 ⟨⟨A1, c1, rfl, hc⟩, hb1⟩
  obtain ⟨g1, o1, rfl, hg1, hc1⟩ := hc (by simp)
  have G1 := Lib.hid (HG.out.below hb1)
  have HB1 := Lib.hid hb1
  have x1 := (hc1 1 _ rfl).c5
  have x2 := (hc1 2 _ rfl).c5
  have HX : Hid (∀ W, Below w1.heap.size w1 W → W.cell? ⟨g1, o1 + 1 * 6 + 5, none⟩ = some (.int .i64 3) ∧ W.cell? ⟨g1, o1 + 2 * 6 + 5, none⟩ = some (.int .i64 0)) := Lib.hid fun W hb => ⟨(hb.cell (p := ⟨g1, _, none⟩) hg1).trans x1, (hb.cell (p := ⟨g1, _, none⟩) hg1).trans x2⟩
  clear hc hc1 hb1 x1 x2 C1
  obtain ⟨w2, hw2⟩ : ∃ w2, w1.alloc (.cells #[.int .u8 3, .int .u8 1, .int .u8 1, .int .u8 2, .int .u8 0, .int .i64 0] 79 (0, 0)) = w2 := ⟨_, rfl⟩
  have hb2 : Below w1.heap.size w1 w2 := by rw [← hw2]; exact (Below.refl _ _).alloc (Nat.le_refl _) _
  have hx2 : w2.heap[w1.heap.size]? = some (.cells #[.int .u8 3, .int .u8 1, .int .u8 1, .int .u8 2, .int .u8 0, .int .i64 0] 79 (0, 0)) := by rw [← hw2]; exact heap_alloc_new w1 _
  have C4 := Lib.hid (C3.out w2 (some ⟨w1.heap.size, 0, none⟩) 1 (G1.out.below hb2) (fun _ => ⟨w1.heap.size, 0, rfl, (Array.getElem?_eq_some_iff.1 hx2).1, fun k x hk => by
    have : k = 0 := by have := (List.getElem?_eq_some_iff.1 hk).1; simp at this; omega
    subst this
    simp only [List.getElem?_cons_zero, Option.some.injEq] at hk
    subst hk
    exact ⟨cell_of hx2 0, cell_of hx2 1, cell_of hx2 2, cell_of hx2 3, cell_of hx2 4, cell_of hx2 5⟩⟩))
  have G2 := Lib.hid (G1.out.below hb2)
  have HB2 := Lib.hid hb2
  clear hb2 hx2 C3
  go_wp2_with (go_at_call 102; refine C4.out.mono ?_; rintro e w3 ⟨rfl, hb3⟩)
  refine (C2.out _ (G2.out.below hb3)).mono ?_
  rintro e w4 ⟨rfl, hb4⟩
  have HB4 := Lib.hid (HB2.out.trans ((hb3.mono HB2.out.size).trans (hb4.mono (Nat.le_trans HB2.out.size hb3.size))))
  obtain ⟨y1, y2⟩ := HX.out _ HB4.out
  simp only [Nat.add_assoc, Nat.reduceMul, Nat.reduceAdd] at y1 y2
  clear hw2 hb3 hb4 C4 HX G1 G2
  go_wp2_with fail
  go_ret
  exact ⟨rfl, HB1.out.trans (HB4.out.mono HB1.out.size)⟩
end Go.Proofs.YtkkcngppmhebbaaGreatDoor
