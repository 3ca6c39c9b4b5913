/-
  Twins of token lists, lists that are alike, lists further down; how many line feeds a text has.
-/
import Derived.Test.YtdjpnaglkonjbaaDoorLexAlive
import Derived.Test.YtdjpnaglkonjbaaDoorCopyRow
import Derived.Deep.OwnRows
namespace Go.Proofs.YtdjpnaglkonjbaaDoor
open Go.RowKit

set_option maxHeartbeats 400000 in
theorem markTok_any (n : Int) (h1 : 0 ≤ n) (h2 : n ≤ 1000000) (w : World) :
    Calls Tryd.prog 41 #[.int .i64 n] w fun e w' => e = .returned (.agg #[.int .u8 0, .string ⟨#[]⟩, .int .i64 0, .int .i64 (-1000 - n)]) ∧ Below w.heap.size w w' := by
  go_enter Tryd.func41, Tryd.ntmps41
  go_wp2
  exact bodyPost_ret (v := .agg #[.int .u8 0, .string ⟨#[]⟩, .int .i64 0, .int .i64 (-1000 - n)]) (by simp [results, Tryd.results41, go_sem]) rfl ⟨rfl, (Below.refl _ _).alloc (Nat.le_refl _) _⟩

set_option maxHeartbeats 1000000 in
theorem feeds_any (l : List UInt8) (hl : l.length ≤ 140737488355328) (w : World) :
    Calls Tryd.prog 27 #[.string ⟨l.toArray⟩] w fun e w' => e = .returned (.int .i64 (feeds l)) ∧ w = w' := by
  go_enter Tryd.func27, Tryd.ntmps27
  go_wp2
  go_loop [3, 4] (fun n i => ∃ k m : Nat, k ≤ l.length ∧ m ≤ k ∧ i = .int .i64 k ∧ n = .int .i64 m ∧ Hid (m + feeds (l.drop k) = feeds l)) (fun _ i => l.length - (intOf i).toNat)
  case atStart => exact ⟨0, 0, Nat.zero_le _, Nat.le_refl _, rfl, rfl, Lib.hid (by simp)⟩
  case round =>
    obtain ⟨k, m, hk, hm, rfl, rfl, hH⟩ := hrel
    by_cases hlt : k < l.length
    · have hget : ∀ h, ((⟨l.toArray⟩ : ByteArray)[k]'h) = l[k] := fun h => rfl
      have hd := List.drop_eq_getElem_cons hlt
      by_cases h10 : l[k] = 10
      · have e1 : ((l[k].toNat : Int) == 10) = true := by rw [h10]; rfl
        have HS : Hid (m + 1 + feeds (l.drop (k + 1)) = feeds l) := Lib.hid (by
          have := hH.out
          rw [hd, h10] at this
          unfold feeds at this ⊢
          rw [List.count_cons_self] at this
          omega)
        clear hd h10 hH
        go_wp2
        go_round
        case rel => exact ⟨k + 1, m + 1, by omega, by omega, by go_num, by go_num, HS⟩
        case measure => simp [intOf]; omega
      · have e1 : ((l[k].toNat : Int) == 10) = false := u8_ne (d := 10) (by decide) h10
        have HS : Hid (m + feeds (l.drop (k + 1)) = feeds l) := Lib.hid (by
          have := hH.out
          rw [hd] at this
          unfold feeds at this ⊢
          rw [List.count_cons_of_ne (by simpa using h10)] at this
          omega)
        clear hd h10 hH
        go_wp2
        go_round
        case rel => exact ⟨k + 1, m, by omega, by omega, by go_num, rfl, HS⟩
        case measure => simp [intOf]; omega
    · have F := Lib.hid (show (m : Int) = (feeds l : Int) by
        have := hH.out
        rw [List.drop_of_length_le (by omega)] at this
        have e : feeds ([] : List UInt8) = 0 := rfl
        omega)
      clear hH
      go_wp2
      go_ret
      exact ⟨by rw [F.out]; rfl, rfl⟩

theorem toks_cells {w : World} {g : Nat} {l : List Tok} (h : ∀ k t, l[k]? = some t → TokAt w g (k * 4) t) (j : Nat) (v : Value) (hv : (l.flatMap Tok.cells)[j]? = some v) : w.cell? ⟨g, j, none⟩ = some v := by
  have hlen : ∀ l : List Tok, (l.flatMap Tok.cells).length = l.length * 4 := fun l => by
    induction l with
    | nil => rfl
    | cons t l ih => rw [List.flatMap_cons, List.length_append, ih]; simp [Tok.cells]; omega
  have hj : j < l.length * 4 := by
    rw [← hlen]; exact (List.getElem?_eq_some_iff.1 hv).1
  have hk : j / 4 < l.length := by omega
  have ht := h (j / 4) _ (List.getElem?_eq_getElem hk)
  have e : j = (j / 4) * 4 + j % 4 := by omega
  have hf := flat_get l (j / 4) (j % 4) _ (List.getElem?_eq_getElem hk) (by omega)
  rw [← e, hv] at hf
  generalize l[j / 4] = t at *
  rw [e]
  rcases (by omega : j % 4 = 0 ∨ j % 4 = 1 ∨ j % 4 = 2 ∨ j % 4 = 3) with h4 | h4 | h4 | h4 <;> rw [h4] at hf ⊢ <;> rw [hf]
  · exact ht.c0
  · exact ht.c1
  · exact ht.c2
  · exact ht.c3
theorem flat_len (l : List Tok) : (l.flatMap Tok.cells).length = l.length * 4 := by
  induction l with
  | nil => rfl
  | cons t l ih => rw [List.flatMap_cons, List.length_append, ih]; simp [Tok.cells]; omega
theorem flat_one (l : List Tok) : ∀ v ∈ l.flatMap Tok.cells, v.oneCell' = true := fun v hv => by
  obtain ⟨t, _, ht⟩ := List.mem_flatMap.1 hv
  simp only [Tok.cells, List.mem_cons, List.not_mem_nil, or_false] at ht
  rcases ht with rfl | rfl | rfl | rfl <;> rfl

theorem made_own (w : World) (cs : Array Value) (T : TypeId) (n : Nat) (hn : n ≤ 100000) (hs : cs.size = (n + 2) * 4) :
    (w.alloc (.cells cs T)).ownsRow w.heap.size T 4 (.slice (some ⟨w.heap.size, 0, none⟩) n (n + 2)) n (cs.toList.take (n * 4)) :=
  ⟨by rw [List.length_take, Array.length_toList]; omega, .inr ⟨w.heap.size, n + 2, cs, rfl, Nat.le_refl _, heap_alloc_new w _, by omega, by simp only [maxLen]; omega, hs, rfl⟩⟩

/-- the world behind the store of a token -/
def putTok (w : World) (g o : Nat) (a b c d : Value) : World := (((w.setCell ⟨g, o, none⟩ a).setCell ⟨g, o + 1, none⟩ b).setCell ⟨g, o + 2, none⟩ c).setCell ⟨g, o + 3, none⟩ d
theorem putTok_own {w : World} {base g n cap o : Nat} {e : TypeId} {xs : List Value} (h : w.ownsRow base e 4 (.slice (some ⟨g, 0, none⟩) n cap) n xs) (ho : n * 4 ≤ o) (a b c d : Value) :
    (putTok w g o a b c d).ownsRow base e 4 (.slice (some ⟨g, 0, none⟩) n cap) n xs :=
  own_set_beyond (own_set_beyond (own_set_beyond (own_set_beyond h ho a) (by omega) b) (by omega) c) (by omega) d
theorem putTok_below {B : Nat} {w0 w : World} {g o : Nat} (hb : Below B w0 w) (hg : B ≤ g) (a b c d : Value) : Below B w0 (putTok w g o a b c d) :=
  (((hb.setCell (p := ⟨g, o, none⟩) hg a).setCell (p := ⟨g, o + 1, none⟩) hg b).setCell (p := ⟨g, o + 2, none⟩) hg c).setCell (p := ⟨g, o + 3, none⟩) hg d
theorem room4 {w : World} {base g n cap o : Nat} {e : TypeId} {xs : List Value} (h : w.ownsRow base e 4 (.slice (some ⟨g, 0, none⟩) n cap) n xs) (ho : o + 4 ≤ cap * 4) :
    (∃ u, w.cell? ⟨g, o, none⟩ = some u) ∧ (∃ u, w.cell? ⟨g, o + 1, none⟩ = some u) ∧ (∃ u, w.cell? ⟨g, o + 2, none⟩ = some u) ∧ (∃ u, w.cell? ⟨g, o + 3, none⟩ = some u) ∧
    w.frozen? ⟨g, o, none⟩ = false ∧ w.frozen? ⟨g, o + 1, none⟩ = false ∧ w.frozen? ⟨g, o + 2, none⟩ = false ∧ w.frozen? ⟨g, o + 3, none⟩ = false :=
  ⟨own_room h (by omega), own_room h (by omega), own_room h (by omega), own_room h (by omega), h.frozenAt _, h.frozenAt _, h.frozenAt _, h.frozenAt _⟩

set_option maxHeartbeats 2000000 in
set_option maxRecDepth 100000 in
theorem twinToks_any (v : Value) (l : List Tok) (B : Nat) (w : World) (hT : Toks w B v l) (hn : l.length ≤ 65536) :
    Calls Tryd.prog 29 #[v] w fun e w' => e = .returned (.slice (some ⟨w.heap.size, 0, none⟩) l.length (l.length + 2)) ∧
      w'.ownsRow w.heap.size 48 4 (.slice (some ⟨w.heap.size, 0, none⟩) l.length (l.length + 2)) l.length (l.flatMap Tok.cells) ∧ Below w.heap.size w w' := by
  obtain ⟨A, c, rfl, hr⟩ := hT
  obtain ⟨i0, hi0, hz0, hz1, hz2⟩ := info_parts tokInfo
  have hmk0 := run_make (P := Tryd.prog) w 38 48 i0 _ Tryd.underlying38 hi0 hz0 .i64 .i64 (l.length : Int) ((l.length : Int) + 2) (by omega) (by omega) (by rw [hz2]; omega) (by omega)
  rw [show ((l.length : Int) + 2).toNat = l.length + 2 by omega, Int.toNat_natCast, hz1] at hmk0
  obtain ⟨cs, hcs, hsz⟩ : ∃ cs, madeCells (Value.cells (.agg #[.int .u8 0, .string ⟨#[]⟩, .int .i64 0, .int .i64 0])) ((l.length + 2) * 4) = cs ∧ cs.size = (l.length + 2) * 4 := ⟨_, rfl, size_madeCells _ _⟩
  rw [hcs] at hmk0
  clear hcs
  have hown := made_own w cs 48 l.length (by omega) hsz
  have hsrc : 0 < l.length → ∃ ad, A = some ad ∧ ∀ j v, (l.flatMap Tok.cells)[j]? = some v → (w.alloc (.cells cs 48)).cell? (ad.add j) = some v := fun hpos => by
    obtain ⟨g, hA, _, hg, hc⟩ := hr (by rintro rfl; simp at hpos)
    refine ⟨_, hA, fun j v hv => ?_⟩
    rw [Lib.add_plain, Nat.zero_add, ← toks_cells hc j v hv]
    exact ((Below.refl w.heap.size w).alloc (Nat.le_refl _) _).cell (p := ⟨g, j, none⟩) hg
  have HS := Lib.hid hsrc
  have HO := Lib.hid hown
  have HL := Lib.hid (flat_len l)
  have H1 := Lib.hid (flat_one l)
  have HB0 : Hid (Below w.heap.size w (w.alloc (.cells cs 48))) := Lib.hid ((Below.refl w.heap.size w).alloc (Nat.le_refl _) _)
  clear hsrc hown hr hi0 hz0 hz1 hz2 hsz
  generalize hF : l.flatMap Tok.cells = F at *
  generalize hN : l.length = n at *
  clear hF hN
  have hi4 : (Tryd.prog.info? 48).map (·.size) = some 4 := by kernel_rfl
  have HI := Lib.hid hi4
  clear hi4
  go_enter Tryd.func29, Tryd.ntmps29
  go_wp2_with ((refine wpList_copy_full rfl (.tmp 12) (.tmp 13) 38 38 rfl 48 4 Tryd.underlying38 HI.out w.heap.size 48 w.heap.size n (n + 2) _ HO.out A c rfl rfl F HL.out HS.out H1.out ?_; intro w1 hown1 hgrow1))
  have HO1 := Lib.hid hown1
  have HB1 : Hid (Below w.heap.size w w1) := Lib.hid (HB0.out.grown hgrow1 (by simp) (fun k h => by injection h with h; omega))
  clear hown1 hgrow1 HS HO hmk0
  refine wp_loop_rounds 3 ?_
  rw [rounds_succ]
  go_wp2_with fail
  refine (markTok_any _ (by omega) (by omega) _).mono ?_
  rintro e w2 ⟨rfl, hb⟩
  have HO2 := Lib.hid (own_below HO1.out hb)
  have HB2 : Hid (Below w.heap.size w w2) := Lib.hid (HB1.out.trans (hb.mono HB1.out.size))
  clear hb
  obtain ⟨⟨u0, k0⟩, ⟨u1, k1⟩, ⟨u2, k2⟩, ⟨u3, k3⟩, z0, z1, z2, z3⟩ := room4 (o := n * 4) HO2.out (by omega)
  have HO3 := Lib.hid (putTok_own (o := n * 4) HO2.out (by omega) (.int .u8 0) (.string ⟨#[]⟩) (.int .i64 0) (.int .i64 (-1000 - (n : Int))))
  have HB3 := Lib.hid (putTok_below (g := w.heap.size) (o := n * 4) HB2.out (Nat.le_refl _) (.int .u8 0) (.string ⟨#[]⟩) (.int .i64 0) (.int .i64 (-1000 - (n : Int))))
  unfold putTok at HO3 HB3
  go_wp2_with fail
  clear k0 k1 k2 k3 z0 z1 z2 z3
  generalize (((w2.setCell ⟨w.heap.size, n * 4, none⟩ (.int .u8 0)).setCell ⟨w.heap.size, n * 4 + 1, none⟩ (.string ⟨#[]⟩)).setCell ⟨w.heap.size, n * 4 + 2, none⟩ (.int .i64 0)).setCell ⟨w.heap.size, n * 4 + 3, none⟩ (.int .i64 (-1000 - (n : Int))) = w3 at HO3 HB3 ⊢
  rw [rounds_succ]
  go_wp2_with fail
  refine (markTok_any _ (by omega) (by omega) _).mono ?_
  rintro e w4 ⟨rfl, hb⟩
  have HO4 := Lib.hid (own_below HO3.out hb)
  have HB4 : Hid (Below w.heap.size w w4) := Lib.hid (HB3.out.trans (hb.mono HB3.out.size))
  clear hb
  obtain ⟨⟨u0, k0⟩, ⟨u1, k1⟩, ⟨u2, k2⟩, ⟨u3, k3⟩, z0, z1, z2, z3⟩ := room4 (o := (n + 1) * 4) HO4.out (by omega)
  have HO5 := Lib.hid (putTok_own (o := (n + 1) * 4) HO4.out (by omega) (.int .u8 0) (.string ⟨#[]⟩) (.int .i64 0) (.int .i64 (-1000 - ((n : Int) + 1))))
  have HB5 := Lib.hid (putTok_below (g := w.heap.size) (o := (n + 1) * 4) HB4.out (Nat.le_refl _) (.int .u8 0) (.string ⟨#[]⟩) (.int .i64 0) (.int .i64 (-1000 - ((n : Int) + 1))))
  unfold putTok at HO5 HB5
  go_wp2_with fail
  clear k0 k1 k2 k3 z0 z1 z2 z3
  generalize (((w4.setCell ⟨w.heap.size, (n + 1) * 4, none⟩ (.int .u8 0)).setCell ⟨w.heap.size, (n + 1) * 4 + 1, none⟩ (.string ⟨#[]⟩)).setCell ⟨w.heap.size, (n + 1) * 4 + 2, none⟩ (.int .i64 0)).setCell ⟨w.heap.size, (n + 1) * 4 + 3, none⟩ (.int .i64 (-1000 - ((n : Int) + 1))) = w5 at HO5 HB5 ⊢
  rw [rounds_succ]
  go_wp2_with fail
  go_ret
  exact ⟨rfl, HO5.out, HB5.out⟩
end Go.Proofs.YtdjpnaglkonjbaaDoor
