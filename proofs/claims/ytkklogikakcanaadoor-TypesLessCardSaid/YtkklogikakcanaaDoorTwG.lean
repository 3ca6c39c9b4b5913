/-
  Twins: threads, programs.
-/
import Derived.Test.YtkklogikakcanaaDoorTwE
set_option linter.unusedVariables false
set_option linter.unusedSimpArgs false
namespace Go.Proofs.YtkklogikakcanaaDoor
open Go Go.RowKit Go.Sort

structure TnTs (w : World) (g B : Nat) (d : Hd) (l : List Th) : Prop where
  len : l.length ≤ 1000000
  row : ∃ b, d.a = some ⟨b, 0, none⟩ ∧ g ≤ b ∧ b < B ∧ d.c = l.length + 2 ∧ (∀ i y, l[i]? = some y → ThAt w b (i * 1) y) ∧
    (∃ a c, w.cell? ⟨b, l.length, none⟩ = some (.slice a (1 + l.length % 40) c)) ∧ ∃ a c, w.cell? ⟨b, l.length + 1, none⟩ = some (.slice a (1 + (l.length + 1) % 40) c)
  sub : ∀ y, y ∈ l → TnSs w g B y.d y.l
  fz : ∃ b cs, d.a = some ⟨b, 0, none⟩ ∧ g ≤ b ∧ b < B ∧ w.heap[b]? = some (.cells cs 41 (0, 0))
theorem TnTs.keep {w w' : World} {g g' B B' : Nat} {d : Hd} {l : List Th} (h : TnTs w g B d l) (hk : ∀ b, g ≤ b → b < B → w'.heap[b]? = w.heap[b]?) (hg : g' ≤ g) (hB : B ≤ B') : TnTs w' g' B' d l := by
  obtain ⟨h0, ⟨b, h1, h2, h3, h4, h5, ⟨a0, c0, h6⟩, ⟨a1, c1, h7⟩⟩, h8, ⟨b', cs, k1, k2, k3, k4⟩⟩ := h
  have hc : ∀ o, w'.cell? ⟨b, o, none⟩ = w.cell? ⟨b, o, none⟩ := fun o => by unfold World.cell?; rw [hk b h2 h3]
  exact ⟨h0, ⟨b, h1, by omega, by omega, h4, fun i y hy => (h5 i y hy).keep hc, ⟨a0, c0, (hc _).trans h6⟩, ⟨a1, c1, (hc _).trans h7⟩⟩, fun y hy => (h8 y hy).keep hk hg hB, ⟨b', cs, k1, by omega, by omega, (hk b' k2 k3).trans k4⟩⟩
theorem ths_flat_len (l : List Th) : (l.flatMap Th.cells).length = l.length := by
  induction l with
  | nil => rfl
  | cons t l ih => rw [List.flatMap_cons, List.length_append, ih]; simp [Th.cells]; omega
set_option maxHeartbeats 1000000 in
set_option maxRecDepth 100000 in
theorem markT_any (n : Nat) (h : n ≤ 100000000000) (w : World) :
    Calls Tryd.prog 60 #[.int .i64 n] w fun e w' => ∃ a c, e = .returned (.slice a (1 + n % 40) c) ∧ Below w.heap.size w w' := by
  obtain ⟨i0, hi0, hz0, hz1, hz2⟩ := info_parts infoSt
  have hmk0 := run_make (P := Tryd.prog) w 41 75 i0 _ Tryd.underlying41 hi0 hz0 .i64 .i64 (1 + (n : Int) % 40) (1 + (n : Int) % 40) (by omega) (by omega) (by rw [hz2]; omega) (by omega)
  rw [show (1 + (n : Int) % 40).toNat = 1 + n % 40 by omega] at hmk0
  clear hi0 hz0 hz1 hz2
  generalize madeCells _ _ = cs at hmk0
  have HB : Hid (Below w.heap.size w (w.alloc (.cells cs 75))) := Lib.hid ((Below.refl _ _).alloc (Nat.le_refl _) _)
  go_enter Tryd.func60, Tryd.ntmps60
  go_wp2_with fail
  go_ret
  exact ⟨_, _, rfl, HB.out⟩

set_option maxHeartbeats 16000000 in
set_option maxRecDepth 100000 in
theorem twinTs_any (B : Nat) (d : Hd) (l : List Th) (w : World) (hI : ThsIn w B d l) (hBw : B ≤ w.heap.size) (G : Globs w) (hn : l.length ≤ 262144) (hsm : ∀ r ∈ l, stAlls r.l ≤ 262144) :
    Calls Tryd.prog 34 #[.slice d.a l.length d.c] w fun e w' => ∃ (d' : Hd) (l' : List Th), e = .returned (.slice d'.a l'.length d'.c) ∧ l'.length = l.length ∧ l'.map stripT = l.map stripT ∧ TnTs w' w.heap.size w'.heap.size d' l' ∧ Below w.heap.size w w' := by
  obtain ⟨i0, hi0, hz0, hz1, hz2⟩ := info_parts infoRow
  have hmk0 := run_make (P := Tryd.prog) w 25 41 i0 _ Tryd.underlying25 hi0 hz0 .i64 .i64 (l.length : Int) ((l.length : Int) + 2) (by omega) (by omega) (by rw [hz2]; omega) (by omega)
  rw [show ((l.length : Int) + 2).toNat = l.length + 2 by omega, Int.toNat_natCast, hz1] at hmk0
  generalize hcs : madeCells _ ((l.length + 2) * 1) = cs at hmk0
  have hsz : cs.size = (l.length + 2) * 1 := by rw [← hcs]; exact size_madeCells _ _
  clear hcs
  obtain ⟨w0, hw0⟩ : ∃ w0, w.alloc (.cells cs 41) = w0 := ⟨_, rfl⟩
  have hb0 : Below w.heap.size w w0 := by rw [← hw0]; exact (Below.refl _ _).alloc (Nat.le_refl _) _
  have ho0 : w0.ownsRow w.heap.size 41 1 (.slice (some ⟨w.heap.size, 0, none⟩) 0 (l.length + 2)) 0 (([] : List Th).flatMap Th.cells) := by rw [← hw0]; exact own_begin w cs 41 1 (l.length + 2) (by unfold maxLen; omega) hsz
  have HO0 := Lib.hid ho0
  have HB0 := Lib.hid hb0
  have HGl : Hid (∀ W, Below w.heap.size w W → Globs W) := Lib.hid fun W hb => G.below hb
  have HIn : Hid (∀ W, Below w.heap.size w W → ThsIn W B d l) := Lib.hid fun W hb => hI.keep (hb.mono hBw) (Nat.le_refl B)
  have HBs : Hid (∀ W, Below w.heap.size w W → B ≤ W.heap.size) := Lib.hid fun W hb => Nat.le_trans hBw hb.size
  have HW0 := Lib.hid hw0
  obtain ⟨n, hN⟩ : ∃ n, l.length = n := ⟨_, rfl⟩
  have HN := Lib.hid hN
  rw [hN] at hmk0 HO0 hn ⊢
  have hnI : (n : Int) ≤ 1000000 := by omega
  clear hi0 hz0 hz1 hz2 hsz hI hN G hBw hb0 ho0
  rw [hw0] at hmk0
  clear hw0
  go_enter Tryd.func34, Tryd.ntmps34
  go_wp2_with fail
  go_loopw [15] (fun ii wr => ∃ (j : Nat) (l' : List Th), ii = .int .i64 j ∧ j ≤ n ∧ Hid (l'.length = j ∧ l'.map stripT = (l.take j).map stripT) ∧ Hid (wr.ownsRow w.heap.size 41 1 (.slice (some ⟨w.heap.size, 0, none⟩) j (n + 2)) j (l'.flatMap Th.cells)) ∧ Hid (∀ y ∈ l', TnT wr (w.heap.size + 1) wr.heap.size y) ∧ Hid (Below w.heap.size w wr)) (fun ii _ => n - (intOf ii).toNat)
  case atStart => exact ⟨0, [], rfl, Nat.zero_le _, Lib.hid ⟨rfl, rfl⟩, HO0, Lib.hid (fun y hy => by cases hy), HB0⟩
  case round =>
    obtain ⟨j, l', rfl, hj, hL, hO, hT, hB⟩ := hrel
    clear HO0
    have p2 : (0 : Int) ≤ (j : Int) := Int.natCast_nonneg _
    by_cases hlt : j < n
    · have hltl : j < l.length := by rw [HN.out]; exact hlt
      obtain ⟨x, hx⟩ : ∃ x, l[j]? = some x := ⟨_, List.getElem?_eq_getElem hltl⟩
      have hmem := List.mem_of_getElem? hx
      have hIr := HIn.out _ hB.out
      obtain ⟨rb, ro, hda, hrb, hrow⟩ := hIr.row (by intro h0; rw [h0] at hltl; simp at hltl)
      have hz := (hrow j x hx).c0
      rw [Nat.mul_one] at hz
      have hTk : (l.take (j + 1)).map stripT = (l.take j).map stripT ++ [stripT x] := by
        rw [List.take_add_one, hx]; simp
      have C := Lib.hid (twinSs_any B x.l (hsm x hmem) x.d wr (hIr.sub x hmem) (HBs.out _ hB.out) (HGl.out _ hB.out))
      have p1 : (j : Int) < (n : Int) := by omega
      have HTk := Lib.hid hTk
      have HLt := Lib.hid hlt
      clear hrow hIr hx hmem hTk hltl hlt hrb
      rw [hda]
      go_wp2_with fail
      with_reducible refine C.out.mono ?_
      rintro e w2 ⟨d2, l2, rfl, hl2, hs2, ht, hb⟩
      obtain ⟨y, hy⟩ : ∃ y : Th, y = ⟨d2, l2⟩ := ⟨_, rfl⟩
      have hs : stripT y = stripT x := by rw [hy]; simp only [stripT, hs2]
      have hyc : Th.cells y = [.slice d2.a l2.length d2.c] := by rw [hy]; rfl
      have ht : TnT w2 wr.heap.size w2.heap.size y := by rw [hy]; exact ht
      have HO2 := Lib.hid (own_belowI hO.out hb)
      have hlt := HLt.out
      have htr := there_own HO2.out (by omega)
      obtain ⟨w3, hw3⟩ : ∃ w3, w2.setCells w.heap.size (j * 1) (Th.cells y) = w3 := ⟨_, rfl⟩
      have ht0 := htr 0 (by decide)
      simp only [Nat.mul_one, Nat.add_zero] at ht0
      obtain ⟨u0, hu0⟩ := Option.isSome_iff_exists.1 ht0.1
      have hf0 := ht0.2
      have hO3 := own_store HO2.out (by omega) (Th.cells y) rfl
      rw [hw3] at hO3
      have HO3 : Hid (w3.ownsRow w.heap.size 41 1 (.slice (some ⟨w.heap.size, 0, none⟩) (j + 1) (n + 2)) (j + 1) ((l' ++ [y]).flatMap Th.cells)) := Lib.hid (by rw [List.flatMap_append]; simpa using hO3)
      have hbw2 : Below w.heap.size w w2 := hB.out.trans (hb.mono hB.out.size)
      have hk3 : ∀ b, w.heap.size + 1 ≤ b → w3.heap[b]? = w2.heap[b]? := fun b hb2 => by
        rw [← hw3]
        by_cases hbl : b < w2.heap.size
        · exact (setCells_kept (S := fun k => k = w.heap.size) rfl (Th.cells y) (j * 1) w2 (Kept.refl _ _)).block b hbl (by omega)
        · rw [Array.getElem?_eq_none (by rw [setCells_size]; omega), Array.getElem?_eq_none (by omega)]
      have s3 : w3.heap.size = w2.heap.size := by rw [← hw3, setCells_size]
      have hgw : w.heap.size + 1 ≤ wr.heap.size := by
        rcases hO.out.2 with ⟨h', _⟩ | ⟨g', cap', cur, h', hb2, hg, r⟩
        · simp at h'
        · simp only [Value.slice.injEq, Option.some.injEq, Addr.mk.injEq, and_true] at h'
          rw [h'.1]; exact blk_lt hg
      have HT3 : Hid (∀ z ∈ l' ++ [y], TnT w3 (w.heap.size + 1) w3.heap.size z) := Lib.hid fun z hz => by
        rcases mem_last hz with hz | rfl
        · exact (hT.out z hz).keep (fun b h1 h2 => (hk3 b h1).trans (hb.block b h2)) (Nat.le_refl _) (by rw [s3]; exact hb.size)
        · exact ht.keep (fun b h1 h2 => hk3 b (by omega)) (by omega) (by rw [s3]; exact Nat.le_refl _)
      have HB3 : Hid (Below w.heap.size w w3) := Lib.hid (by rw [← hw3]; exact setCells_below (Nat.le_refl _) _ _ _ hbw2)
      have HL3 : Hid ((l' ++ [y]).length = j + 1 ∧ (l' ++ [y]).map stripT = (l.take (j + 1)).map stripT) := Lib.hid ⟨by rw [List.length_append, hL.out.1]; rfl, by rw [HTk.out, ← hL.out.2, List.map_append]; simp [hs]⟩
      have HW3 : Hid (w2.setCell ⟨w.heap.size, j, none⟩ (.slice d2.a l2.length d2.c) = w3) := Lib.hid (by rw [← hw3, hyc, Nat.mul_one]; rfl)
      clear hs hs2 hl2 hyc hy ht htr ht0 hb HO2 hO3 hbw2 hk3 s3 hgw hz hw3 C hL hO hT hB HTk
      go_wp2_with fail
      simp only [HW3.out]
      go_roundw
      case rel => exact ⟨j + 1, l' ++ [y], by go_num, by omega, HL3, HO3, HT3, HB3⟩
      case measure => simp [intOf]; omega
    · obtain rfl : j = n := by omega
      have hst : l'.map stripT = l.map stripT := by
        have h := hL.out.2
        rwa [List.take_of_length_le (by rw [HN.out]; exact Nat.le_refl _)] at h
      have HSt := Lib.hid (And.intro hL.out.1 hst)
      clear hst hL hlt
      go_wp2_with fail
      refine wp_loop_rounds 3 ?_
      rw [rounds_succ]
      go_wp2_with fail
      refine (markT_any j (by omega) wr).mono ?_
      rintro e w2 ⟨a0, c0, rfl, hb⟩
      have HO2 := Lib.hid (own_belowI hO.out hb)
      have hB2 : Below w.heap.size w w2 := hB.out.trans (hb.mono hB.out.size)
      have htr := there_own HO2.out (by omega)
      have ht0 := htr 0 (by decide)
      simp only [Nat.mul_one, Nat.add_zero] at ht0
      obtain ⟨u0, hu0⟩ := Option.isSome_iff_exists.1 ht0.1
      have hf0 := ht0.2
      obtain ⟨w3, hwd⟩ : ∃ w3, w2.setCell ⟨w.heap.size, j, none⟩ (.slice a0 (1 + j % 40) c0) = w3 := ⟨_, rfl⟩
      have hP := own_store HO2.out (by omega) [.slice a0 (1 + j % 40) c0] rfl
      rw [Nat.mul_one] at hP
      have hP2 : (w2.setCells w.heap.size j [.slice a0 (1 + j % 40) c0]) = w3 := hwd
      rw [hP2] at hP
      have HO3 := Lib.hid hP
      have HB3 : Hid (Below w.heap.size w w3) := Lib.hid (by rw [← hwd]; exact hB2.setCell (p := ⟨w.heap.size, j, none⟩) (Nat.le_refl _) _)
      have HK3 : Hid (Kept (fun k => k = w.heap.size) wr w3) := Lib.hid (by rw [← hwd]; exact Kept.setCell (S := fun k => k = w.heap.size) (Kept.of_below hb) (p := ⟨w.heap.size, j, none⟩) (Or.inl rfl) _)
      have HWd0 := Lib.hid hwd
      clear hb hB2 HO2 htr ht0 hP hP2 hwd
      go_wp2_with fail
      simp only [HWd0.out]
      clear hu0 hf0
      rw [rounds_succ]
      go_wp2_with fail
      refine (markT_any (j + 1) (by omega) w3).mono ?_
      rintro e w4 ⟨a1, c1, rfl, hb⟩
      have HO2 := Lib.hid (own_belowI HO3.out hb)
      have hB2 : Below w.heap.size w w4 := HB3.out.trans (hb.mono HB3.out.size)
      have htr := there_own HO2.out (by omega)
      have ht0 := htr 0 (by decide)
      simp only [Nat.mul_one, Nat.add_zero] at ht0
      obtain ⟨u1, hu1⟩ := Option.isSome_iff_exists.1 ht0.1
      have hf1 := ht0.2
      obtain ⟨w5, hwd⟩ : ∃ w5, w4.setCell ⟨w.heap.size, (j + 1), none⟩ (.slice a1 (1 + (j + 1) % 40) c1) = w5 := ⟨_, rfl⟩
      have hP := own_store HO2.out (by omega) [.slice a1 (1 + (j + 1) % 40) c1] rfl
      rw [Nat.mul_one] at hP
      have hP2 : (w4.setCells w.heap.size (j + 1) [.slice a1 (1 + (j + 1) % 40) c1]) = w5 := hwd
      rw [hP2] at hP
      have HO5 := Lib.hid hP
      have HB5 : Hid (Below w.heap.size w w5) := Lib.hid (by rw [← hwd]; exact hB2.setCell (p := ⟨w.heap.size, (j + 1), none⟩) (Nat.le_refl _) _)
      have HK5 : Hid (Kept (fun k => k = w.heap.size) w3 w5) := Lib.hid (by rw [← hwd]; exact Kept.setCell (S := fun k => k = w.heap.size) (Kept.of_below hb) (p := ⟨w.heap.size, (j + 1), none⟩) (Or.inl rfl) _)
      have HWd1 := Lib.hid hwd
      clear hb hB2 HO2 htr ht0 hP hP2 hwd
      go_wp2_with fail
      simp only [HWd1.out]
      clear hu1 hf1
      rw [rounds_succ]
      go_wp2_with fail
      go_ret
      have hlt : w.heap.size < w5.heap.size := by
        rcases HO5.out.2 with ⟨h', _⟩ | ⟨g', cap', cur, h', hb, hg, r⟩
        · simp at h'
        · simp only [Value.slice.injEq, Option.some.injEq, Addr.mk.injEq, and_true] at h'
          rw [h'.1]; exact blk_lt hg
      have hfz : ∃ cs, w5.heap[w.heap.size]? = some (.cells cs 41 (0, 0)) := by
        rcases HO5.out.2 with ⟨h', _⟩ | ⟨g', cap', cur, h', hb, hg, r⟩
        · simp at h'
        · simp only [Value.slice.injEq, Option.some.injEq, Addr.mk.injEq, and_true] at h'
          rw [h'.1]; exact ⟨_, hg⟩
      have hK := HK3.out.trans HK5.out
      have hO5 := HO5.out
      have hfl : (l'.flatMap Th.cells).length = l'.length := ths_flat_len l'
      have hl5 := hO5.1
      have hat : ∀ i v, (l'.flatMap Th.cells ++ [.slice a0 (1 + j % 40) c0] ++ [.slice a1 (1 + (j + 1) % 40) c1])[i]? = some v → w5.cell? ⟨w.heap.size, i, none⟩ = some v := fun i v hv => by
        have hi := (List.getElem?_eq_some_iff.1 hv).1
        rw [hl5] at hi
        rw [hO5.cellAt i (by omega)]; exact hv
      refine ⟨⟨some ⟨w.heap.size, 0, none⟩, j + 2⟩, l', by rw [HSt.out.1]; rfl, HSt.out.1, HSt.out.2, ⟨by rw [HSt.out.1]; omega, ⟨w.heap.size, rfl, Nat.le_refl _, hlt, by rw [HSt.out.1], fun i y hy => ?_, ⟨a0, c0, ?_⟩, ⟨a1, c1, ?_⟩⟩, fun y hy => (hT.out y hy).keep (fun b h1 h2 => hK.block b h2 (by omega)) (by omega) hK.size, by obtain ⟨cs, hcs⟩ := hfz; exact ⟨_, cs, rfl, Nat.le_refl _, hlt, hcs⟩⟩, HB5.out⟩
      · have hi := (List.getElem?_eq_some_iff.1 hy).1
        rw [Nat.mul_one]
        refine ⟨hat i _ ?_⟩
        have h := flat_at Th.cells 1 (fun _ => rfl) l' i 0 y hy (by decide)
        rw [Nat.mul_one, Nat.add_zero] at h
        rw [List.append_assoc, List.getElem?_append_left (by rw [hfl]; exact hi), h]
        rfl
      · rw [HSt.out.1]
        refine hat j _ ?_
        rw [List.append_assoc, List.getElem?_append_right (by rw [hfl, HSt.out.1]; exact Nat.le_refl _), hfl, HSt.out.1, Nat.sub_self]
        rfl
      · rw [HSt.out.1]
        refine hat (j + 1) _ ?_
        rw [List.append_assoc, List.getElem?_append_right (by rw [hfl, HSt.out.1]; omega), hfl, HSt.out.1, Nat.add_sub_cancel_left]
        rfl

structure TnP (w : World) (g B : Nat) (p : Pr) : Prop where
  rs : TnRs w g B p.rd p.rs
  ss : TnFs w g B p.sd p.ss
  fs : TnUs w g B p.fd p.fs
  ts : TnTs w g B p.td p.ts
theorem TnP.keep {w w' : World} {g g' B B' : Nat} {p : Pr} (h : TnP w g B p) (hk : ∀ b, g ≤ b → b < B → w'.heap[b]? = w.heap[b]?) (hg : g' ≤ g) (hB : B ≤ B') : TnP w' g' B' p := ⟨h.rs.keep hk hg hB, h.ss.keep hk hg hB, h.fs.keep hk hg hB, h.ts.keep hk hg hB⟩
theorem TnP.inn {w : World} {g B : Nat} {p : Pr} (h : TnP w g B p) : PrIn w B p where
  rlen := by have := h.rs.len; unfold lenOk; omega
  rrow := h.rs.row.row
  rsub := fun r hr => ⟨(h.rs.sub r hr).nm, (h.rs.sub r hr).fs.inn⟩
  ss := h.ss.inn
  flen := by have := h.fs.len; unfold lenOk; omega
  frow := h.fs.row.row
  fsub := fun f hf => ⟨(h.fs.sub f hf).nm, (h.fs.sub f hf).ps.inn, (h.fs.sub f hf).t, (h.fs.sub f hf).body.inn⟩
  tlen := by have := h.ts.len; unfold lenOk; omega
  trow := fun _ => by
    obtain ⟨b, h1, h2, h3, h4, h5, -, -⟩ := h.ts.row
    exact ⟨b, 0, h1, h3, fun i y hy => by rw [Nat.zero_add]; exact h5 i y hy⟩
  tsub := fun t ht => (h.ts.sub t ht).inn
/-- a program's box -/
def PrBox (X : Nat) (p : Pr) (w : World) : Prop := w.heap[X]? = some (.cells p.cells.toArray 27 (0, 0))
theorem PrBox.keep {X : Nat} {p : Pr} {w w' : World} (h : PrBox X p w) (hb : Below w.heap.size w w') : PrBox X p w' := (hb.block X (blk_lt h)).trans h
theorem prSz (p : Pr) : (Tryd.prog.info? 27).map (·.size) = some p.cells.toArray.size := by kernel_rfl
theorem prSzL (p : Pr) : (Tryd.prog.info? 27).map (·.size) = some p.cells.length := by kernel_rfl
theorem prOn (p : Pr) : p.cells.toArray.all (·.oneCell') = true := by simp [Pr.cells, Value.oneCell']
abbrev zeroPr : List Value := [.slice none 0 0, .slice none 0 0, .slice none 0 0, .slice none 0 0]

set_option maxHeartbeats 8000000 in
set_option maxRecDepth 100000 in
theorem twinPr_any (B : Nat) (p : Pr) (w : World) (hI : PrIn w B p) (hB : B ≤ w.heap.size) (G : Globs w) (S : PrSmall p) :
    Calls Tryd.prog 15 #[.agg p.cells.toArray] w fun e w' => ∃ q : Pr, e = .returned (.agg q.cells.toArray) ∧ stripP q = stripP p ∧ TnP w' w.heap.size w'.heap.size q ∧ Below w.heap.size w w' := by
  obtain ⟨rd, rs, sd, ss, fd, fs, td, ts⟩ := p
  obtain ⟨X, hX⟩ : ∃ X, w.heap.size = X := ⟨_, rfl⟩
  obtain ⟨o, ho⟩ : ∃ o, (.cells (Pr.mk rd rs sd ss fd fs td ts).cells.toArray 27 (0, 0) : Obj) = o := ⟨_, rfl⟩
  obtain ⟨w2, hw2⟩ : ∃ w2, (w.alloc o).alloc (.cells zeroPr.toArray 27 (0, 0)) = w2 := ⟨_, rfl⟩
  have hb1 : Below w.heap.size w (w.alloc o) := (Below.refl _ _).alloc (Nat.le_refl _) _
  have hb2 : Below w.heap.size w w2 := by rw [← hw2]; exact hb1.alloc hb1.size _
  have s2 : w2.heap.size = X + 1 + 1 := by rw [← hw2, World.size_alloc, World.size_alloc, hX]
  have hs1 : (w.alloc o).heap.size = X + 1 := by rw [World.size_alloc, hX]
  have x1 : (w.alloc o).heap[X]? = some o := by rw [← hX]; exact heap_alloc_new w _
  have x2 : PrBox X ⟨rd, rs, sd, ss, fd, fs, td, ts⟩ w2 := by
    unfold PrBox
    rw [← hw2]
    exact (((Below.refl (w.alloc o).heap.size (w.alloc o)).alloc (Nat.le_refl _) _).block X (by omega)).trans (by rw [x1, ho])
  have y2 : w2.heap[X + 1]? = some (.cells zeroPr.toArray 27 (0, 0)) := by rw [← hw2, ← hs1]; exact heap_alloc_new _ _
  have HF : Hid (∀ W, KX X w2 W → PrIn W B ⟨rd, rs, sd, ss, fd, fs, td, ts⟩ ∧ B ≤ W.heap.size ∧ Globs W ∧ Below w.heap.size w W ∧ X + 1 + 1 ≤ W.heap.size) := Lib.hid fun W hk => by
    have hbw : Below w.heap.size w W := hb2.trans (hk.below hb2.size (fun k h => by rcases h with h | h <;> omega))
    exact ⟨hI.keep (hbw.mono hB) (Nat.le_refl B), Nat.le_trans hB hbw.size, G.below hbw, hbw, by have := hk.size; omega⟩
  have HY : Hid (∀ W, Kept (fun k => k = X) w2 W → W.heap[X + 1]? = some (.cells zeroPr.toArray 27 (0, 0))) := Lib.hid fun W hk => (hk.block (X + 1) (by omega) (by omega)).trans y2
  have HX2 := Lib.hid x2
  have HSm := Lib.hid S
  have HN : Hid (w.heap.size = X ∧ (w.alloc o).alloc (.cells zeroPr.toArray 27 (0, 0)) = w2 ∧ w2.heap.size = X + 1 + 1) := Lib.hid ⟨hX, hw2, s2⟩
  have Ho := Lib.hid ho
  have c2 : w2.cell? ⟨X, 0, none⟩ = some (.slice rd.a rs.length rd.c) := cell_at x2 0
  rw [← hw2] at c2
  clear hb1 hb2 s2 hs1 x1 x2 y2 hI G hB S hw2
  go_enter Tryd.func15, Tryd.ntmps15
  go_wp2_with fail
  simp only [HN.out.2.1]
  clear c2
  have HKw2 : Hid (Kept (fun k => k = X) w2 w2) := Lib.hid (Kept.refl _ _)
  have HBw2 := HX2
  have ff := HF.out _ (HKw2.out.mono fun k _ h => Or.inl h)
  have CC := twinRs_any B rd rs w2 ⟨ff.1.rlen, ff.1.rrow, ff.1.rsub⟩ ff.2.1 ff.2.2.1 (by have h := HSm.out.heads; dsimp only at h; omega) HSm.out.recs
  with_reducible refine CC.mono ?_
  clear CC ff
  rintro e w3 ⟨rd', rs', rfl, hl, hs, hT, hb⟩
  obtain ⟨w4, hw⟩ : ∃ w4, w3.setCell ⟨X, 0, none⟩ (.slice rd'.a rs'.length rd'.c) = w4 := ⟨_, rfl⟩
  have B1 := HBw2.out.keep hb
  have B2 : PrBox X ⟨rd', rs', sd, ss, fd, fs, td, ts⟩ w4 := by
    have h := row_set B1 0 (.slice rd'.a rs'.length rd'.c)
    rw [hw] at h
    unfold PrBox
    rw [h]
    rfl
  have cc := cell_at B1 0
  have ff := frz_at B1 0
  have cn := cell_at B2 1
  simp only [List.getElem?_toArray, Pr.cells, List.getElem?_cons_zero, List.getElem?_cons_succ] at cc cn
  rw [← hw] at cn
  have kb : KX X w2 w3 := Kept.of_below hb
  have kc : KX X w3 w4 := by rw [← hw]; exact Kept.setCell (S := fun k => k = X ∨ k = X + 1) (Kept.refl _ _) (p := ⟨X, 0, none⟩) (Or.inl (Or.inl rfl)) _
  have k2 : Kept (fun k => k = X) w2 w4 := by rw [← hw]; exact Kept.setCell (S := fun k => k = X) (HKw2.out.trans (Kept.of_below hb)) (p := ⟨X, 0, none⟩) (Or.inl rfl) _
  have HT0 := Lib.hid (And.intro hs hT)
  have HBw4 := Lib.hid B2
  have HKw4 := Lib.hid k2
  have HJ0 := Lib.hid kc
  have HL0 := Lib.hid (kb.trans kc)
  have HW0 := Lib.hid hw
  clear hb B1 B2 kb kc k2 hw
  clear hl hs hT
  go_wp2_with fail
  simp only [HW0.out]
  clear cc ff cn
  have ff := HF.out _ (HKw4.out.mono fun k _ h => Or.inl h)
  have CC := twinFls_any sd ss B w4 ff.1.ss ff.2.1 (by have h := HSm.out.heads; dsimp only at h; omega) ff.2.2.1
  with_reducible refine CC.mono ?_
  clear CC ff
  rintro e w5 ⟨sd', rfl, hT, hb⟩
  obtain ⟨w6, hw⟩ : ∃ w6, w5.setCell ⟨X, 1, none⟩ (.slice sd'.a ss.length sd'.c) = w6 := ⟨_, rfl⟩
  have B1 := HBw4.out.keep hb
  have B2 : PrBox X ⟨rd', rs', sd', ss, fd, fs, td, ts⟩ w6 := by
    have h := row_set B1 1 (.slice sd'.a ss.length sd'.c)
    rw [hw] at h
    unfold PrBox
    rw [h]
    rfl
  have cc := cell_at B1 1
  have ff := frz_at B1 1
  have cn := cell_at B2 2
  simp only [List.getElem?_toArray, Pr.cells, List.getElem?_cons_zero, List.getElem?_cons_succ] at cc cn
  rw [← hw] at cn
  have kb : KX X w4 w5 := Kept.of_below hb
  have kc : KX X w5 w6 := by rw [← hw]; exact Kept.setCell (S := fun k => k = X ∨ k = X + 1) (Kept.refl _ _) (p := ⟨X, 1, none⟩) (Or.inl (Or.inl rfl)) _
  have k2 : Kept (fun k => k = X) w2 w6 := by rw [← hw]; exact Kept.setCell (S := fun k => k = X) (HKw4.out.trans (Kept.of_below hb)) (p := ⟨X, 1, none⟩) (Or.inl rfl) _
  have HT1 := Lib.hid hT
  have HBw6 := Lib.hid B2
  have HKw6 := Lib.hid k2
  have HJ1 := Lib.hid kc
  have HL1 := Lib.hid (kb.trans kc)
  have HW1 := Lib.hid hw
  clear hb B1 B2 kb kc k2 hw
  clear hT
  go_wp2_with fail
  simp only [HW1.out]
  clear cc ff cn
  have ff := HF.out _ (HKw6.out.mono fun k _ h => Or.inl h)
  have CC := twinUs_any B fd fs w6 ⟨ff.1.flen, ff.1.frow, ff.1.fsub⟩ ff.2.1 ff.2.2.1 (by have h := HSm.out.heads; dsimp only at h; omega) HSm.out.funs
  with_reducible refine CC.mono ?_
  clear CC ff
  rintro e w7 ⟨fd', fs', rfl, hl, hs, hT, hb⟩
  obtain ⟨w8, hw⟩ : ∃ w8, w7.setCell ⟨X, 2, none⟩ (.slice fd'.a fs'.length fd'.c) = w8 := ⟨_, rfl⟩
  have B1 := HBw6.out.keep hb
  have B2 : PrBox X ⟨rd', rs', sd', ss, fd', fs', td, ts⟩ w8 := by
    have h := row_set B1 2 (.slice fd'.a fs'.length fd'.c)
    rw [hw] at h
    unfold PrBox
    rw [h]
    rfl
  have cc := cell_at B1 2
  have ff := frz_at B1 2
  have cn := cell_at B2 3
  simp only [List.getElem?_toArray, Pr.cells, List.getElem?_cons_zero, List.getElem?_cons_succ] at cc cn
  rw [← hw] at cn
  have kb : KX X w6 w7 := Kept.of_below hb
  have kc : KX X w7 w8 := by rw [← hw]; exact Kept.setCell (S := fun k => k = X ∨ k = X + 1) (Kept.refl _ _) (p := ⟨X, 2, none⟩) (Or.inl (Or.inl rfl)) _
  have k2 : Kept (fun k => k = X) w2 w8 := by rw [← hw]; exact Kept.setCell (S := fun k => k = X) (HKw6.out.trans (Kept.of_below hb)) (p := ⟨X, 2, none⟩) (Or.inl rfl) _
  have HT2 := Lib.hid (And.intro hs hT)
  have HBw8 := Lib.hid B2
  have HKw8 := Lib.hid k2
  have HJ2 := Lib.hid kc
  have HL2 := Lib.hid (kb.trans kc)
  have HW2 := Lib.hid hw
  clear hb B1 B2 kb kc k2 hw
  clear hl hs hT
  go_wp2_with fail
  simp only [HW2.out]
  clear cc ff cn
  have ff := HF.out _ (HKw8.out.mono fun k _ h => Or.inl h)
  have CC := twinTs_any B td ts w8 ⟨ff.1.tlen, ff.1.trow, ff.1.tsub⟩ ff.2.1 ff.2.2.1 (by have h := HSm.out.heads; dsimp only at h; omega) HSm.out.thrs
  with_reducible refine CC.mono ?_
  clear CC ff
  rintro e w9 ⟨td', ts', rfl, hl, hs, hT, hb⟩
  obtain ⟨wA, hw⟩ : ∃ wA, w9.setCell ⟨X, 3, none⟩ (.slice td'.a ts'.length td'.c) = wA := ⟨_, rfl⟩
  have B1 := HBw8.out.keep hb
  have B2 : PrBox X ⟨rd', rs', sd', ss, fd', fs', td', ts'⟩ wA := by
    have h := row_set B1 3 (.slice td'.a ts'.length td'.c)
    rw [hw] at h
    unfold PrBox
    rw [h]
    rfl
  have cc := cell_at B1 3
  have ff := frz_at B1 3
  have cn := cell_at B2 3
  simp only [List.getElem?_toArray, Pr.cells, List.getElem?_cons_zero, List.getElem?_cons_succ] at cc cn
  rw [← hw] at cn
  have kb : KX X w8 w9 := Kept.of_below hb
  have kc : KX X w9 wA := by rw [← hw]; exact Kept.setCell (S := fun k => k = X ∨ k = X + 1) (Kept.refl _ _) (p := ⟨X, 3, none⟩) (Or.inl (Or.inl rfl)) _
  have k2 : Kept (fun k => k = X) w2 wA := by rw [← hw]; exact Kept.setCell (S := fun k => k = X) (HKw8.out.trans (Kept.of_below hb)) (p := ⟨X, 3, none⟩) (Or.inl rfl) _
  have HT3 := Lib.hid (And.intro hs hT)
  have HBwA := Lib.hid B2
  have HKwA := Lib.hid k2
  have HJ3 := Lib.hid kc
  have HL3 := Lib.hid (kb.trans kc)
  have HW3 := Lib.hid hw
  clear hb B1 B2 kb kc k2 hw
  obtain ⟨q, hq⟩ : ∃ q : Pr, q = ⟨rd', rs', sd', ss, fd', fs', td', ts'⟩ := ⟨_, rfl⟩
  have BA : PrBox X q wA := by rw [hq]; exact HBwA.out
  have hzA := row_cells BA
  have htA := there_row (vs := zeroPr) (HY.out _ HKwA.out) 0 4 (Nat.le_refl 4)
  obtain ⟨wB, hwB⟩ : ∃ wB, wA.setCells (X + 1) 0 q.cells = wB := ⟨_, rfl⟩
  have hrg : wB.rangeAt (X + 1) 0 q.cells := by rw [← hwB]; exact World.rangeAt_setCells_same _ _ _ _ htA
  have hres : (loadVar 27 ⟨X + 1, 0, none⟩).run Tryd.prog wB = .ok (.agg q.cells.toArray) wB := run_loadVar_mid _ (X + 1) 0 27 q.cells _ hrg Tryd.underlying27 rfl (prSzL _)
  have kAB : KX X wA wB := by rw [← hwB]; exact setCells_kept (S := fun k => k = X ∨ k = X + 1) (Or.inr rfl) _ _ _ (Kept.refl _ _)
  have HZ : Hid (stripP q = stripP ⟨rd, rs, sd, ss, fd, fs, td, ts⟩ ∧ TnP wB w.heap.size wB.heap.size q ∧ Below w.heap.size w wB) := Lib.hid (by
    have hX := HN.out.1
    have h3 : w2.heap.size = X + 1 + 1 := HN.out.2.2
    have q4 : w2.heap.size ≤ w4.heap.size := HKw4.out.size
    have q6 : w2.heap.size ≤ w6.heap.size := HKw6.out.size
    have q8 : w2.heap.size ≤ w8.heap.size := HKw8.out.size
    have k9 : KX X w9 wB := HJ3.out.trans kAB
    have k8 : KX X w8 wB := HL3.out.trans kAB
    have k7 : KX X w7 wB := HJ2.out.trans k8
    have k6 : KX X w6 wB := HL2.out.trans k8
    have k5 : KX X w5 wB := HJ1.out.trans k6
    have k4 : KX X w4 wB := HL1.out.trans k6
    have k3 : KX X w3 wB := HJ0.out.trans k4
    have k2 : KX X w2 wB := HL0.out.trans k4
    have t0 := HT0.out.2.keep (fun b h1 h2 => k3.block b h2 (fun hh => by rcases hh with hh | hh <;> omega)) (show w.heap.size ≤ w2.heap.size by omega) k3.size
    have t1 := HT1.out.keep (fun b h1 h2 => k5.block b h2 (fun hh => by rcases hh with hh | hh <;> omega)) (show w.heap.size ≤ w4.heap.size by omega) k5.size
    have t2 := HT2.out.2.keep (fun b h1 h2 => k7.block b h2 (fun hh => by rcases hh with hh | hh <;> omega)) (show w.heap.size ≤ w6.heap.size by omega) k7.size
    have t3 := HT3.out.2.keep (fun b h1 h2 => k9.block b h2 (fun hh => by rcases hh with hh | hh <;> omega)) (show w.heap.size ≤ w8.heap.size by omega) k9.size
    have hE : TnP wB w.heap.size wB.heap.size ⟨rd', rs', sd', ss, fd', fs', td', ts'⟩ := ⟨t0, t1, t2, t3⟩
    rw [← hq] at hE
    refine ⟨?_, hE, (HF.out _ k2).2.2.2.1⟩
    rw [hq]
    simp only [stripP, HT0.out.1, HT2.out.1, HT3.out.1])
  have HWB := Lib.hid hwB
  clear hl hs hT BA hwB hrg kAB hq cn
  go_wp2_with (first | (refine wpList_load_list rfl 27 _ rfl _ rfl q.cells _ hzA Tryd.underlying27 rfl (prSzL _) ?_) | (refine wpList_store_mid rfl 27 _ _ rfl (X + 1) 0 q.cells.toArray rfl rfl htA (prSz _) (prOn _) ?_; rw [show wA.setCells (X + 1) 0 q.cells.toArray.toList = wB from HWB.out]) | rw [HW3.out])
  refine bodyPost_ret (v := .agg q.cells.toArray) (by simp [results, Tryd.results15, Act.eval, Sem.run_bind, Act.put, asAddr, hres]) rfl ?_
  exact ⟨q, rfl, HZ.out⟩
end Go.Proofs.YtkklogikakcanaaDoor
