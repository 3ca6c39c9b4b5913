/-
  AsmBack walked.
-/
import Derived.Test.YtkkcngppmhebbaaDoorAsmAlive
import Derived.Test.YtkkcngppmhebbaaDoorAsmLaw2
import Derived.Test.YtkkcngppmhebbaaDoorIsaCheck
set_option linter.unusedVariables false
set_option linter.unusedSimpArgs false
namespace Go.Proofs.YtkkcngppmhebbaaDoor
open Go.RowKit

set_option maxHeartbeats 400000 in
set_option maxRecDepth 100000 in
theorem beyond_any (b off c : Nat) (x : Int) (h1 : 0 ≤ x) (h2 : x ≤ 9223372036854775807) (w : World) (hc : w.cell? ⟨b, off, none⟩ = some (.int .i64 x)) :
    Calls Tryd.prog 6 #[.slice (some ⟨b, off, none⟩) 1 c] w fun e w' => e = .returned (.bool (decide (262144 < x))) ∧ w = w' := by
  by_cases hx : 262144 < x
  · rw [show decide (262144 < x) = true by simpa using hx]
    go_enter Tryd.func6, Tryd.ntmps6
    go_wp2
    refine wp_loop_rounds 1 ?_
    rw [rounds_succ]
    go_wp2
    go_ret
    exact ⟨rfl, rfl⟩
  · rw [show decide (262144 < x) = false by simpa using hx]
    go_enter Tryd.func6, Tryd.ntmps6
    go_wp2
    refine wp_loop_rounds 2 ?_
    rw [rounds_succ]
    go_wp2
    rw [rounds_succ]
    go_wp2
    go_ret
    exact ⟨rfl, rfl⟩
theorem parse_err {s : List UInt8} {n : Nat} {e : Int} (h : parseA s = .inr (n, e)) : e ≠ 0 := by
  unfold parseA at h
  split at h
  · injection h with h; injection h with _ h; subst h; decide
  · split at h
    · next p hr =>
      injection h with h
      subst h
      have := (run_bad hr).2
      omega
    · split at h
      · cases h
      · injection h with h; injection h with _ h; subst h; decide
theorem text_len {l : List Cmd} {t : List UInt8} (h : textA l = (t, 0)) : t.length ≤ 65536 := by
  unfold textA at h
  split at h
  · injection h with _ h; cases h
  · split at h
    · cases hg : textGo [] l with
      | none => rw [hg] at h; injection h with _ h; cases h
      | some u =>
        rw [hg] at h
        injection h with h _
        subst h
        exact (textGo_is l [] u (by simp) hg).2
    · injection h with _ h; cases h

set_option maxHeartbeats 16000000 in
set_option maxRecDepth 100000 in
theorem asmBack_walk (A : Option Addr) (c : Nat) (l : List Cmd) (s : ByteArray) (w : World) (hn : l.length ≤ 35184372088832) (hwf : ∀ x ∈ l, x.Wf) (hl : CmdsAt w w.heap.size A l) (hs : s.size ≤ 140737488355328) (G : AGlobs w) :
    Calls Tryd.prog 4 #[.slice A l.length c, .string s] w fun e w' => e = .returned (.bool true) ∧ Below w.heap.size w w' := by
  obtain ⟨S, rfl⟩ : ∃ S : List UInt8, s = ⟨S.toArray⟩ := ⟨s.data.toList, by simp⟩
  have hsz : (⟨S.toArray⟩ : ByteArray).size = S.length := by simp [ByteArray.size]
  rw [hsz] at hs
  have CA := Lib.hid (fun W GW => alive18_any W GW)
  have HG := Lib.hid G
  have HL := Lib.hid hl
  have HWf := Lib.hid hwf
  have HNl := Lib.hid hn
  obtain ⟨w1, hw1⟩ : ∃ w1, w.alloc (.cells #[.int .i64 (l.length : Int)] 3 (0, 0)) = w1 := ⟨_, rfl⟩
  have hb1 : Below w.heap.size w w1 := by rw [← hw1]; exact (Below.refl _ _).alloc (Nat.le_refl _) _
  have hc1 : w1.heap[w.heap.size]? = some (.cells #[.int .i64 (l.length : Int)] 3 (0, 0)) := by rw [← hw1]; exact heap_alloc_new w _
  have CB := Lib.hid (beyond_any w.heap.size 0 1 (l.length : Int) (by omega) (by omega) w1 (cell_of hc1 0))
  have HB1 := Lib.hid hb1
  have CT := Lib.hid (atext_any A c l w1 (G.below hb1) (hc_keep hl hb1) hwf (by omega))
  clear G hl hwf hn hb1 hc1
  by_cases hbig : (262144 : Int) < (l.length : Int)
  · rw [show decide ((262144 : Int) < (l.length : Int)) = true by simpa using hbig] at CB
    clear hbig
    go_enter Tryd.func4, Tryd.ntmps4
    go_wp2_with (go_at_call 6; refine CB.out.mono ?_; rintro e w2 ⟨rfl, rfl⟩)
    go_ret
    exact ⟨rfl, HB1.out⟩
  · rw [show decide ((262144 : Int) < (l.length : Int)) = false by simpa using hbig] at CB
    have HNb : Hid (l.length ≤ 262144) := Lib.hid (by omega)
    clear hbig
    obtain ⟨t, te, ht⟩ : ∃ t te, textA l = (t, te) := ⟨(textA l).1, (textA l).2, rfl⟩
    rw [ht] at CT
    by_cases he : te = 0
    · subst he
      have htl := text_len ht
      have CP := Lib.hid (fun W GW => aparse_any t (by omega) W GW)
      rw [parse_text HWf.out ht] at CP
      clear htl ht
      go_enter Tryd.func4, Tryd.ntmps4
      go_wp2_with (first | (go_at_call 6; refine CB.out.mono ?_; rintro e w2 ⟨rfl, rfl⟩) | (go_at_call 8; refine CT.out.mono ?_; rintro e w2 ⟨rfl, hb2⟩))
      have HB2 := Lib.hid (HB1.out.trans (hb2.mono HB1.out.size))
      refine (CP.out _ (HG.out.below HB2.out)).mono ?_
      rintro e w3 ⟨h3, hb3⟩
      obtain ⟨A3, c3, rfl, hc3⟩ := h3.ok rfl
      have HB3 := Lib.hid (HB2.out.trans (hb3.mono HB2.out.size))
      have CM := Lib.hid (sameOps_eq A A3 c c3 l w3 (hc_keep HL.out HB3.out) hc3 (by have := HNb.out; omega))
      clear h3 hc3 hb2 hb3 hw1 CB CT CP
      go_wp2_with (go_at_call 13; refine CM.out.mono ?_; rintro e w4 ⟨rfl, k, rfl⟩)
      have HB4 := Lib.hid (HB3.out.trans (below_drewN w.heap.size w3 k))
      clear CM
      have CP2 := Lib.hid (aparse_any S hs (w3.drewN k) (HG.out.below HB4.out))
      cases hp : parseA S with
      | inr p =>
        obtain ⟨n, er⟩ := p
        rw [hp] at CP2
        have her : (er == 0) = false := by have := parse_err hp; simpa using this
        clear hp
        refine CP2.out.mono ?_
        rintro e wb1 ⟨h1, hb1⟩
        obtain rfl := h1.bad rfl
        have HB2 := Lib.hid (HB4.out.trans (hb1.mono HB4.out.size))
        clear h1 hb1 CP2
        go_wp2_with (go_at_call 11; refine (CA.out _ (HG.out.below HB2.out)).mono ?_; rintro e wb2 ⟨rfl, hb2⟩)
        go_ret
        exact ⟨rfl, HB2.out.trans (hb2.mono HB2.out.size)⟩
      | inl m =>
        rw [hp] at CP2
        have hok := Lib.hid (parse_ok hp)
        clear hp
        refine CP2.out.mono ?_
        rintro e wb1 ⟨h1, hb1⟩
        obtain ⟨Am, cm, rfl, hcm⟩ := h1.ok rfl
        have HB2 := Lib.hid (HB4.out.trans (hb1.mono HB4.out.size))
        have HCm := Lib.hid hcm
        clear h1 hb1 hcm CP2
        have CT2 := Lib.hid (fun W (hb : Below wb1.heap.size wb1 W) => atext_any Am cm m W (HG.out.below (HB2.out.trans (hb.mono HB2.out.size))) (hc_keep HCm.out hb) (fun x hx => (hok.out.1 x hx).2) (by have := hok.out.2; omega))
        have CI := Lib.hid (fun (k c a b d n : Int) W => icheck_any k c a b d n W)
        have hlm := Lib.hid hok.out.2
        go_wp2_with fail
        go_loopw [13] (fun i wr => ∃ j : Nat, i = .int .i64 j ∧ j ≤ m.length ∧ Hid (Below wb1.heap.size wb1 wr)) (fun i _ => m.length - (intOf i).toNat)
        case atStart => exact ⟨0, rfl, Nat.zero_le _, Lib.hid (Below.refl _ _)⟩
        case round =>
          obtain ⟨j, rfl, hj, hbj⟩ := hrel
          by_cases hlt : j < m.length
          · obtain ⟨o, ho⟩ : ∃ o, m[j]? = some o := ⟨_, List.getElem?_eq_getElem hlt⟩
            have hoo := hok.out.1 o (List.mem_of_getElem? ho)
            obtain ⟨g1, o1, rfl, -, hc1⟩ := (hc_keep HCm.out hbj.out) (by rintro rfl; simp at hlt)
            obtain ⟨c0, c1, c2, c3, c4, c5⟩ := hc1 j o ho
            have hE : okE ⟨o.k, o.c, o.a, o.b, o.d, o.n⟩ = 0 := by unfold okE; rw [show (⟨o.k, o.c, o.a, o.b, o.d, o.n⟩ : Cmd) = o from rfl, hoo.1]; rfl
            have CI2 := Lib.hid (CI.out o.k o.c o.a o.b o.d o.n wr)
            rw [hE] at CI2
            have p1 : (0 : Int) ≤ (j : Int) := Int.natCast_nonneg _
            have p2 : (j : Int) < (m.length : Int) := by omega
            have hlm2 := hlm.out
            clear hc1 hoo hE ho
            go_wp2_with (go_at_call 14; refine CI2.out.mono ?_; rintro e wk ⟨rfl, hbk⟩)
            go_roundw
            case rel => exact ⟨j + 1, by go_num, by omega, Lib.hid (hbj.out.trans (hbk.mono hbj.out.size))⟩
            case measure => simp [intOf]; omega
          · obtain rfl : j = m.length := by omega
            have HB3 := Lib.hid (HB2.out.trans (hbj.out.mono HB2.out.size))
            have CT3 := Lib.hid (CT2.out wr hbj.out)
            rcases text_of_ok hok.out.1 hok.out.2 with ht | ht
            · obtain ⟨u, hu⟩ : ∃ u, textA m = (u, 0) := ⟨(textA m).1, by rw [← ht]⟩
              rw [hu] at CT3
              have hul := text_len hu
              have CP3 := Lib.hid (fun W GW => aparse_any u (by omega) W GW)
              rw [parse_text (fun x hx => (hok.out.1 x hx).2) hu] at CP3
              clear hu hul ht hlt
              go_wp2_with (go_at_call 8; refine CT3.out.mono ?_; rintro e wc1 ⟨rfl, hd1⟩)
              have HB4 := Lib.hid (HB3.out.trans (hd1.mono HB3.out.size))
              refine (CP3.out _ (HG.out.below HB4.out)).mono ?_
              rintro e wc2 ⟨h2, hd2⟩
              obtain ⟨Ax, cx, rfl, hcx⟩ := h2.ok rfl
              have HB5 := Lib.hid (HB4.out.trans (hd2.mono HB4.out.size))
              have CM2 := Lib.hid (sameOps_eq Ax Am cx cm m wc2 hcx (hc_keep (hc_keep (hc_keep HCm.out hbj.out) hd1) hd2) (by have := hok.out.2; omega))
              clear h2 hcx hd1 hd2
              go_wp2_with (first | (go_at_call 13; refine CM2.out.mono ?_; rintro e w4 ⟨rfl, k, rfl⟩) | (go_at_call 11; refine (CA.out _ (HG.out.below (HB5.out.trans (below_drewN _ _ _)))).mono ?_; rintro e w5 ⟨rfl, hb5⟩))
              go_ret
              exact ⟨rfl, (HB5.out.trans (below_drewN _ _ _)).trans (hb5.mono (by exact HB5.out.size))⟩
            · rw [ht] at CT3
              clear ht hlt
              go_wp2_with (first | (go_at_call 8; refine CT3.out.mono ?_; rintro e wc1 ⟨rfl, hd1⟩; have HB4 := Lib.hid (HB3.out.trans (hd1.mono HB3.out.size))) | (go_at_call 11; refine (CA.out _ (HG.out.below HB4.out)).mono ?_; rintro e w5 ⟨rfl, hb5⟩))
              go_ret
              exact ⟨rfl, HB4.out.trans (hb5.mono HB4.out.size)⟩
    · have te0 : (te == 0) = false := by simpa using he
      clear ht he
      go_enter Tryd.func4, Tryd.ntmps4
      go_wp2_with (first | (go_at_call 6; refine CB.out.mono ?_; rintro e w2 ⟨rfl, rfl⟩) | (go_at_call 8; refine CT.out.mono ?_; rintro e w2 ⟨rfl, hb2⟩))
      have HB4 := Lib.hid (HB1.out.trans (hb2.mono HB1.out.size))
      clear hb2 hw1 CB CT
      have CP2 := Lib.hid (aparse_any S hs w2 (HG.out.below HB4.out))
      cases hp : parseA S with
      | inr p =>
        obtain ⟨n, er⟩ := p
        rw [hp] at CP2
        have her : (er == 0) = false := by have := parse_err hp; simpa using this
        clear hp
        refine CP2.out.mono ?_
        rintro e wb1 ⟨h1, hb1⟩
        obtain rfl := h1.bad rfl
        have HB2 := Lib.hid (HB4.out.trans (hb1.mono HB4.out.size))
        clear h1 hb1 CP2
        go_wp2_with (go_at_call 11; refine (CA.out _ (HG.out.below HB2.out)).mono ?_; rintro e wb2 ⟨rfl, hb2⟩)
        go_ret
        exact ⟨rfl, HB2.out.trans (hb2.mono HB2.out.size)⟩
      | inl m =>
        rw [hp] at CP2
        have hok := Lib.hid (parse_ok hp)
        clear hp
        refine CP2.out.mono ?_
        rintro e wb1 ⟨h1, hb1⟩
        obtain ⟨Am, cm, rfl, hcm⟩ := h1.ok rfl
        have HB2 := Lib.hid (HB4.out.trans (hb1.mono HB4.out.size))
        have HCm := Lib.hid hcm
        clear h1 hb1 hcm CP2
        have CT2 := Lib.hid (fun W (hb : Below wb1.heap.size wb1 W) => atext_any Am cm m W (HG.out.below (HB2.out.trans (hb.mono HB2.out.size))) (hc_keep HCm.out hb) (fun x hx => (hok.out.1 x hx).2) (by have := hok.out.2; omega))
        have CI := Lib.hid (fun (k c a b d n : Int) W => icheck_any k c a b d n W)
        have hlm := Lib.hid hok.out.2
        go_wp2_with fail
        go_loopw [13] (fun i wr => ∃ j : Nat, i = .int .i64 j ∧ j ≤ m.length ∧ Hid (Below wb1.heap.size wb1 wr)) (fun i _ => m.length - (intOf i).toNat)
        case atStart => exact ⟨0, rfl, Nat.zero_le _, Lib.hid (Below.refl _ _)⟩
        case round =>
          obtain ⟨j, rfl, hj, hbj⟩ := hrel
          by_cases hlt : j < m.length
          · obtain ⟨o, ho⟩ : ∃ o, m[j]? = some o := ⟨_, List.getElem?_eq_getElem hlt⟩
            have hoo := hok.out.1 o (List.mem_of_getElem? ho)
            obtain ⟨g1, o1, rfl, -, hc1⟩ := (hc_keep HCm.out hbj.out) (by rintro rfl; simp at hlt)
            obtain ⟨c0, c1, c2, c3, c4, c5⟩ := hc1 j o ho
            have hE : okE ⟨o.k, o.c, o.a, o.b, o.d, o.n⟩ = 0 := by unfold okE; rw [show (⟨o.k, o.c, o.a, o.b, o.d, o.n⟩ : Cmd) = o from rfl, hoo.1]; rfl
            have CI2 := Lib.hid (CI.out o.k o.c o.a o.b o.d o.n wr)
            rw [hE] at CI2
            have p1 : (0 : Int) ≤ (j : Int) := Int.natCast_nonneg _
            have p2 : (j : Int) < (m.length : Int) := by omega
            have hlm2 := hlm.out
            clear hc1 hoo hE ho
            go_wp2_with (go_at_call 14; refine CI2.out.mono ?_; rintro e wk ⟨rfl, hbk⟩)
            go_roundw
            case rel => exact ⟨j + 1, by go_num, by omega, Lib.hid (hbj.out.trans (hbk.mono hbj.out.size))⟩
            case measure => simp [intOf]; omega
          · obtain rfl : j = m.length := by omega
            have HB3 := Lib.hid (HB2.out.trans (hbj.out.mono HB2.out.size))
            have CT3 := Lib.hid (CT2.out wr hbj.out)
            rcases text_of_ok hok.out.1 hok.out.2 with ht | ht
            · obtain ⟨u, hu⟩ : ∃ u, textA m = (u, 0) := ⟨(textA m).1, by rw [← ht]⟩
              rw [hu] at CT3
              have hul := text_len hu
              have CP3 := Lib.hid (fun W GW => aparse_any u (by omega) W GW)
              rw [parse_text (fun x hx => (hok.out.1 x hx).2) hu] at CP3
              clear hu hul ht hlt
              go_wp2_with (go_at_call 8; refine CT3.out.mono ?_; rintro e wc1 ⟨rfl, hd1⟩)
              have HB4 := Lib.hid (HB3.out.trans (hd1.mono HB3.out.size))
              refine (CP3.out _ (HG.out.below HB4.out)).mono ?_
              rintro e wc2 ⟨h2, hd2⟩
              obtain ⟨Ax, cx, rfl, hcx⟩ := h2.ok rfl
              have HB5 := Lib.hid (HB4.out.trans (hd2.mono HB4.out.size))
              have CM2 := Lib.hid (sameOps_eq Ax Am cx cm m wc2 hcx (hc_keep (hc_keep (hc_keep HCm.out hbj.out) hd1) hd2) (by have := hok.out.2; omega))
              clear h2 hcx hd1 hd2
              go_wp2_with (first | (go_at_call 13; refine CM2.out.mono ?_; rintro e w4 ⟨rfl, k, rfl⟩) | (go_at_call 11; refine (CA.out _ (HG.out.below (HB5.out.trans (below_drewN _ _ _)))).mono ?_; rintro e w5 ⟨rfl, hb5⟩))
              go_ret
              exact ⟨rfl, (HB5.out.trans (below_drewN _ _ _)).trans (hb5.mono (by exact HB5.out.size))⟩
            · rw [ht] at CT3
              clear ht hlt
              go_wp2_with (first | (go_at_call 8; refine CT3.out.mono ?_; rintro e wc1 ⟨rfl, hd1⟩; have HB4 := Lib.hid (HB3.out.trans (hd1.mono HB3.out.size))) | (go_at_call 11; refine (CA.out _ (HG.out.below HB4.out)).mono ?_; rintro e w5 ⟨rfl, hb5⟩))
              go_ret
              exact ⟨rfl, HB4.out.trans (hb5.mono HB4.out.size)⟩
end Go.Proofs.YtkkcngppmhebbaaDoor
