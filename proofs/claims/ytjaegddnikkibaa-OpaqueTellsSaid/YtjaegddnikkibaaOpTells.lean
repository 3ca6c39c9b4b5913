/-
  OpaqueTells walked.
-/
import Derived.Test.YtjaegddnikkibaaTwinAtts
import Derived.Test.YtjaegddnikkibaaLeftAtts
import Derived.Test.YtjaegddnikkibaaRfCheck
import Derived.Test.YtjaegddnikkibaaRfOwnAll
import Derived.Test.YtjaegddnikkibaaOpLives
set_option linter.unusedVariables false
set_option linter.unusedSimpArgs false
namespace Go.Proofs.Ytjaegddnikkibaa
open Go.RowKit Go.Sort Go.Maps

theorem ok_core {l l' : List Att} (h : l'.map core = l.map core) (hO : ∀ x ∈ l, x.Ok) : ∀ x ∈ l', x.Ok := fun x hx => by
  obtain ⟨k, hk, rfl⟩ := List.mem_iff_getElem.1 hx
  have hk2 : k < l.length := by rw [← core_len h]; exact hk
  have hc := core_get h hk hk2
  have ho := hO _ (List.getElem_mem hk2)
  generalize l'[k] = x at *
  generalize l[k] = y at *
  obtain ⟨a0, a1, a2, a3, a4, a5, a6, a7, a8, a9⟩ := x
  obtain ⟨b0, b1, b2, b3, b4, b5, b6, b7, b8, b9⟩ := y
  simp only [core, Att.mk.injEq] at hc
  obtain ⟨rfl, rfl, rfl, rfl, rfl, rfl, rfl, -, -, rfl⟩ := hc
  exact ⟨ho.th, ho.kd, ho.bg, ho.en, ho.ck, ho.pl, ho.len, ho.evs⟩

set_option maxHeartbeats 4000000 in
set_option maxRecDepth 100000 in
theorem opaqueTells_walk (A : Option Addr) (c : Nat) (l : List Att) (w : World) (hl : l.length ≤ 35184372088832) (hO : ∀ x ∈ l, x.Ok) (ha : AttsAt w w.heap.size A l) :
    Calls Try.prog 4 #[.slice A l.length c] w fun e w' => e = .returned (.bool true) ∧ Below w.heap.size w w' := by
  have HSZ := Lib.hid (asize_any A c _ l hl (fun x hx => (hO x hx).len) w ha)
  have HLE := Lib.hid (asizeV_le l)
  by_cases hby : 262144 < asizeV l
  · have HBY : Hid (decide (262144 < asizeV l) = true) := Lib.hid (by simpa using hby)
    have HBE := Lib.hid (fun o => (Below.refl w.heap.size w).alloc (Nat.le_refl _) o)
    clear ha hO hby
    go_enter Try.func4, Try.ntmps4
    go_wp2_with fail
    refine HSZ.out.mono ?_
    rintro e w' ⟨rfl, rfl⟩
    go_wp2_with fail
    refine (beyond_any w.heap.size 0 1 (asizeV l) HLE.out.1 HLE.out.2 _ (by simp)).mono ?_
    rintro e w' ⟨rfl, rfl⟩
    rw [HBY.out]
    go_wp2_with fail
    go_ret
    exact ⟨rfl, HBE.out _⟩
  · have HBY : Hid (decide (262144 < asizeV l) = false) := Lib.hid (by simpa using hby)
    have hts : totalSize l ≤ 262144 := by
      have := mt (asizeV_total l).2 hby
      omega
    have hln := Nat.le_trans (length_le_total l) hts
    have hel : ∀ x ∈ l, x.evs.length ≤ 1000000 := fun x hx => Nat.le_trans (evs_le_total l x hx) (by omega)
    have HTW := Lib.hid (fun W (h : Below w.heap.size w W) => twinAtts_any A c l w.heap.size W (ha.keep h (Nat.le_refl _)) h.size (by omega) hel)
    have HCK := Lib.hid (fun (l' : List Att) (g c' : Nat) W (hm : l'.map core = l.map core) (ht : Twins W g l') => ocheck_any (some ⟨g, 0, none⟩) c' l' (by have := core_len hm; omega) (ok_core hm hO) W ht.atts)
    have HOW := Lib.hid (fun (l' : List Att) (g c' : Nat) W (hm : l'.map core = l.map core) (ht : Twins W g l') => oown_any (some ⟨g, 0, none⟩) c' l' (by have := core_len hm; omega) (ok_core hm hO) W ht.atts)
    have HRC := Lib.hid (fun W (h : Below w.heap.size w W) => rfCheck_any A c l (by omega) hts hO W (ha.keep h h.size))
    have HRO := Lib.hid (fun W (h : Below w.heap.size w W) => rfOwnAll_any A c l (by omega) hO W (ha.keep h h.size))
    have HLF := Lib.hid (fun (l' : List Att) (g : Nat) W (hm : l'.map core = l.map core) (ht : Twins W g l') (h : Below w.heap.size w W) => leftAtts_any l l' g A c w.heap.size W ht hm (ha.keep h (Nat.le_refl _)) h.size (by omega) hel)
    clear ha hO hby hts hl hel
    go_enter Try.func4, Try.ntmps4
    go_wp2_with fail
    refine HSZ.out.mono ?_
    rintro e w' ⟨rfl, rfl⟩
    go_wp2_with fail
    refine (beyond_any w.heap.size 0 1 (asizeV l) HLE.out.1 HLE.out.2 _ (by simp)).mono ?_
    rintro e w' ⟨rfl, rfl⟩
    rw [HBY.out]
    go_wp2_with fail
    have hb0 := (Below.refl w.heap.size w).alloc (Nat.le_refl _) (.cells #[.int .i64 (asizeV l)] 3 (0, 0))
    refine (HTW.out _ hb0).mono ?_
    rintro e w1 ⟨rfl, ⟨l', hm, ht⟩, hb1⟩
    have hlen := core_len hm
    have HB1 := Lib.hid (hb0.trans (hb1.mono hb0.size))
    have HT := Lib.hid (fun W (h : Below w1.heap.size w1 W) => ht.below h)
    have HW1 := Lib.hid (fun W (h : Below w1.heap.size w1 W) => HB1.out.trans (h.mono HB1.out.size))
    have HCK2 := Lib.hid (fun W (h : Below w1.heap.size w1 W) => HCK.out l' _ (l.length + 2) W hm (HT.out W h))
    have HOW2 := Lib.hid (fun W (h : Below w1.heap.size w1 W) => HOW.out l' _ (l.length + 2) W hm (HT.out W h))
    have HLF2 := Lib.hid (fun W (h : Below w1.heap.size w1 W) => HLF.out l' _ W hm (HT.out W h) (HW1.out W h))
    rw [ocheckV_same hm, hlen] at HCK2
    rw [oownV_same hm, hlen] at HOW2
    clear hm ht hlen hb1 hb0 HT HCK HOW HLF HTW HSZ
    generalize (w.alloc (.cells #[.int .i64 (asizeV l)] 3 (0, 0))).heap.size = g at *
    generalize ocheckV l = E1 at *
    generalize oownV l = E2 at *
    obtain ⟨a1, a2⟩ := E1
    obtain ⟨b1, b2⟩ := E2
    dsimp only at *
    go_wp2_with fail
    refine (HCK2.out _ (Below.refl _ _)).mono ?_
    rintro e w2 ⟨rfl, hb⟩
    have HB2 := Lib.hid hb
    clear hb HCK2
    go_wp2_with fail
    refine (HOW2.out _ HB2.out).mono ?_
    rintro e w3 ⟨rfl, hb⟩
    have HB3 := Lib.hid (HB2.out.trans (hb.mono HB2.out.size))
    clear hb HOW2 HB2
    go_wp2_with fail
    refine (HRC.out _ (HW1.out _ HB3.out)).mono ?_
    rintro e w4 ⟨rfl, hb⟩
    have HB4 := Lib.hid (HB3.out.trans (hb.mono HB3.out.size))
    clear hb HRC HB3
    go_wp2_with fail
    refine (HRO.out _ (HW1.out _ HB4.out)).mono ?_
    rintro e w5 ⟨rfl, hb⟩
    have HB5 := Lib.hid (HB4.out.trans (hb.mono HB4.out.size))
    clear hb HRO HB4
    go_wp2_with fail
    refine (HLF2.out _ HB5.out).mono ?_
    rintro e w6 ⟨rfl, hb⟩
    have HB6 := Lib.hid (HB5.out.trans (hb.mono HB5.out.size))
    clear hb HLF2 HB5
    go_wp2_with fail
    refine (lives30_any _).mono ?_
    rintro e w7 ⟨rfl, hb⟩
    have HB7 := Lib.hid (HW1.out _ (HB6.out.trans (hb.mono HB6.out.size)))
    clear hb
    go_wp2_with fail
    go_ret
    exact ⟨rfl, HB7.out⟩
end Go.Proofs.Ytjaegddnikkibaa
