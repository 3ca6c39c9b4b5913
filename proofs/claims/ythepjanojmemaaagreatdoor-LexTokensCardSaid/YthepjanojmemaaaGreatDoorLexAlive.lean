/-
  Rows of tokens in memory; law02.alive; LexNames walked.
-/
import Derived.Test.YthepjanojmemaaaGreatDoorLexTokens
import Derived.Test.YthepjanojmemaaaGreatDoorLexJoin
import Derived.Laws.OwnMore
set_option linter.unusedVariables false
set_option linter.unusedSimpArgs false
namespace Go.Proofs.YthepjanojmemaaaGreatDoor
open Go.RowKit

/-- a token at a place of memory -/
structure TokAt (w : World) (g o : Nat) (t : Tok) : Prop where
  c0 : w.cell? ⟨g, o, none⟩ = some (.int .u8 t.kd)
  c1 : w.cell? ⟨g, o + 1, none⟩ = some (.string ⟨t.text.toArray⟩)
  c2 : w.cell? ⟨g, o + 2, none⟩ = some (.int .i64 t.n)
  c3 : w.cell? ⟨g, o + 3, none⟩ = some (.int .i64 t.line)
/-- a slice of tokens, its row in a block from B on -/
def Toks (w : World) (B : Nat) (v : Value) (l : List Tok) : Prop :=
  ∃ A c, v = .slice A l.length c ∧ (l ≠ [] → ∃ g, A = some ⟨g, 0, none⟩ ∧ B ≤ g ∧ g < w.heap.size ∧ ∀ k t, l[k]? = some t → TokAt w g (k * 4) t)

theorem flat_get : ∀ (l : List Tok) (k j : Nat) (t : Tok), l[k]? = some t → j < 4 → (l.flatMap Tok.cells)[k * 4 + j]? = t.cells[j]?
  | [], k, j, t, h, _ => by simp at h
  | x :: l, 0, j, t, h, hj => by
    simp only [List.getElem?_cons_zero, Option.some.injEq] at h
    subst h
    rw [List.flatMap_cons, List.getElem?_append_left (by simp [Tok.cells]; omega)]
    simp
  | x :: l, k + 1, j, t, h, hj => by
    rw [List.getElem?_cons_succ] at h
    rw [List.flatMap_cons, List.getElem?_append_right (by simp [Tok.cells]; omega)]
    rw [show (k + 1) * 4 + j - x.cells.length = k * 4 + j by simp [Tok.cells]; omega]
    exact flat_get l k j t h hj
theorem toks_of_own {w : World} {B : Nat} {v : Value} {l : List Tok} (h : w.ownsRow B 67 4 v l.length (l.flatMap Tok.cells)) : Toks w B v l := by
  rcases h.2 with ⟨rfl, hn⟩ | ⟨g, cap, cur, rfl, hg, hb, r⟩
  · have : l = [] := List.eq_nil_of_length_eq_zero hn
    subst this
    exact ⟨none, 0, rfl, fun h => absurd rfl h⟩
  · refine ⟨some ⟨g, 0, none⟩, cap, rfl, fun _ => ⟨g, rfl, hg, (Array.getElem?_eq_some_iff.1 hb).1, fun k t hk => ?_⟩⟩
    have hlt : k < l.length := (List.getElem?_eq_some_iff.1 hk).1
    have key : ∀ j, j < 4 → w.cell? ⟨g, k * 4 + j, none⟩ = t.cells[j]? := fun j hj => by
      rw [h.cellAt (k * 4 + j) (by omega), flat_get l k j t hk hj]
    exact ⟨key 0 (by decide), key 1 (by decide), key 2 (by decide), key 3 (by decide)⟩
theorem TokAt.keep {w w' : World} {g o : Nat} {t : Tok} (h : TokAt w g o t) (hk : ∀ o', w'.cell? ⟨g, o', none⟩ = w.cell? ⟨g, o', none⟩) : TokAt w' g o t :=
  ⟨(hk _).trans h.c0, (hk _).trans h.c1, (hk _).trans h.c2, (hk _).trans h.c3⟩
theorem Toks.below {w w' : World} {B : Nat} {v : Value} {l : List Tok} (h : Toks w B v l) (hb : Below w.heap.size w w') : Toks w' B v l := by
  obtain ⟨A, c, hv, hr⟩ := h
  refine ⟨A, c, hv, fun hne => ?_⟩
  obtain ⟨g, hA, hB, hg, hc⟩ := hr hne
  exact ⟨g, hA, hB, Nat.lt_of_lt_of_le hg hb.size, fun k t hk => (hc k t hk).keep fun o' => hb.cell (p := ⟨g, o', none⟩) hg⟩
theorem Toks.kept {w w' : World} {B B' : Nat} {v : Value} {l : List Tok} (h : Toks w B v l) (hb : Below B' w w') (hB : ∀ g, v.ownBlock = some g → g < B') : Toks w' B v l := by
  obtain ⟨A, c, hv, hr⟩ := h
  refine ⟨A, c, hv, fun hne => ?_⟩
  obtain ⟨g, hA, hB1, hg, hc⟩ := hr hne
  have hlt : g < B' := hB g (by rw [hv, hA]; rfl)
  refine ⟨g, hA, hB1, ?_, fun k t hk => (hc k t hk).keep fun o' => hb.cell (p := ⟨g, o', none⟩) hlt⟩
  rcases Nat.lt_or_ge g w'.heap.size with h2 | h2
  · exact h2
  · have h3 := hb.block g hlt
    rw [Array.getElem?_eq_none h2, Array.getElem?_eq_getElem hg] at h3
    cases h3

/-- the answer, by the text's tokens -/
theorem TokOut.ok {l : List UInt8} {w w' : World} {e : Ending} {toks : List Tok} (h : TokOut l w e w') (hs : Scans l 0 [] (.ok toks)) :
    ∃ v, e = .returned (.tuple #[v, .int .i64 0, .int .i64 0]) ∧ Toks w' w.heap.size v toks ∧ Below w.heap.size w w' := by
  obtain ⟨hb, res, hr, hm⟩ := h
  obtain rfl := scans_fun hr hs
  obtain ⟨v, he, ho⟩ := hm
  have ht := toks_of_own ho
  refine ⟨v, he, ?_, hb⟩
  obtain ⟨A, c, hv, hr⟩ := ht
  exact ⟨A, c, hv, fun hne => by
    obtain ⟨g, h1, h2, h3⟩ := hr hne
    exact ⟨g, h1, by omega, h3⟩⟩
theorem TokOut.bad {l : List UInt8} {w w' : World} {e : Ending} {n : Nat} (h : TokOut l w e w') (hs : Scans l 0 [] (.bad n)) :
    e = .returned (.tuple #[.slice none 0 0, .int .i64 n, .int .i64 5]) ∧ Below w.heap.size w w' := by
  obtain ⟨hb, res, hr, hm⟩ := h
  obtain rfl := scans_fun hr hs
  exact ⟨hm, hb⟩

def aliveT : List UInt8 := [97, 60, 61, 53, 32, 47, 47, 32, 120, 10, 110, 105, 108]
theorem alive_scan : Scans aliveT 0 [] (.ok [⟨1, [97], 0, 0⟩, ⟨4, [60, 61], 0, 0⟩, ⟨3, [53], 5, 0⟩, ⟨2, [110, 105, 108], 0, 1⟩]) := by unfold Scans; kernel_rfl
theorem alive_scan2 : Scans [97, 10, 35] 0 [] (.bad 1) := by unfold Scans; kernel_rfl
theorem w_int : wordB [105, 110, 116] = true := by decide
theorem n_a1 : nameB [97, 95, 49] = true := by decide

set_option maxHeartbeats 1000000 in
set_option maxRecDepth 100000 in
theorem lalive_any (w : World) (G : LGlobs w) : Calls Tryz.prog 9 #[] w fun e w' => e = .returned (.bool true) ∧ Below w.heap.size w w' := by
  have HG := Lib.hid G
  clear G
  have C1 : Hid (Calls Tryz.prog 4 #[.string ⟨#[97, 60, 61, 53, 32, 47, 47, 32, 120, 10, 110, 105, 108]⟩] w (TokOut aliveT w)) := Lib.hid (tokens_any aliveT (by decide) w HG.out)
  have C2 : Hid (∀ W, LGlobs W → Calls Tryz.prog 4 #[.string ⟨#[97, 10, 35]⟩] W (TokOut [97, 10, 35] W)) := Lib.hid (fun W GW => tokens_any [97, 10, 35] (by decide) W GW)
  have C3 : Hid (∀ W, LGlobs W → Calls Tryz.prog 93 #[.string ⟨#[105, 110, 116]⟩] W fun e w' => e = .returned (.bool true) ∧ W = w') := Lib.hid (fun W GW => (lword_any [105, 110, 116] (by decide) W GW).mono fun e w' h => ⟨by rw [h.1, w_int], h.2⟩)
  have C4 : Hid (∀ W, LGlobs W → Calls Tryz.prog 94 #[.string ⟨#[97, 95, 49]⟩] W fun e w' => e = .returned (.bool true) ∧ W = w') := Lib.hid (fun W GW => (lname_any [97, 95, 49] (by decide) W GW).mono fun e w' h => ⟨by rw [h.1, n_a1], h.2⟩)
  go_enter Tryz.func9, Tryz.ntmps9
  go_wp2_with fail
  refine C1.out.mono ?_
  rintro e w1 ho
  obtain ⟨v, rfl, ht, hb⟩ := ho.ok alive_scan
  obtain ⟨A, c, rfl, hr⟩ := ht
  obtain ⟨g, rfl, -, hg, hc⟩ := hr (by simp)
  have t1 := (hc 1 _ rfl).c1
  have t2 := (hc 2 _ rfl).c2
  have t3 := (hc 3 _ rfl).c0
  have t4 := (hc 3 _ rfl).c3
  simp only [Nat.reduceMul, Nat.reduceAdd] at t1 t2 t3 t4
  have HB1 := Lib.hid hb
  have HT := Lib.hid (And.intro t1 (And.intro t2 (And.intro t3 t4)))
  clear hb hc hr ho t1 t2 t3 t4
  go_wp2_with fail
  refine (C2.out _ (HG.out.below HB1.out)).mono ?_
  rintro e w2 ho
  obtain ⟨rfl, hb⟩ := ho.bad alive_scan2
  have K := fun o => hb.cell (p := ⟨g, o, none⟩) hg
  have t1 := (K 5).trans HT.out.1
  have t2 := (K 10).trans HT.out.2.1
  have t3 := (K 12).trans HT.out.2.2.1
  have t4 := (K 15).trans HT.out.2.2.2
  have HB2 : Hid (Below w.heap.size w w2) := Lib.hid (HB1.out.trans (hb.mono HB1.out.size))
  clear hb ho K
  go_wp2_with fail
  refine (C3.out _ (HG.out.below HB2.out)).mono ?_
  rintro e w' ⟨rfl, rfl⟩
  go_wp2_with fail
  refine (C4.out _ (HG.out.below HB2.out)).mono ?_
  rintro e w' ⟨rfl, rfl⟩
  go_wp2_with fail
  go_ret
  exact ⟨rfl, HB2.out⟩

end Go.Proofs.YthepjanojmemaaaGreatDoor
