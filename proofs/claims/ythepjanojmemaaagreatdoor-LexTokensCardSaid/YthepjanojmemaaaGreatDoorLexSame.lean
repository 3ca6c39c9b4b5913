/-
  Lists of tokens that are alike; lists of tokens further down.
-/
import Derived.Test.YthepjanojmemaaaGreatDoorLexTwin
set_option linter.unusedVariables false
set_option linter.unusedSimpArgs false
namespace Go.Proofs.YthepjanojmemaaaGreatDoor
open Go.RowKit

set_option maxHeartbeats 2000000 in
set_option maxRecDepth 100000 in
theorem sameToks_eq (v1 v2 : Value) (l : List Tok) (B1 B2 : Nat) (w : World) (h1 : Toks w B1 v1 l) (h2 : Toks w B2 v2 l) (hn : l.length ≤ 200000) :
    Calls Tryz.prog 6 #[v1, v2] w fun e w' => e = .returned (.bool true) ∧ ∃ k, w' = w.drewN k := by
  obtain ⟨A1, c1, rfl, hr1⟩ := h1
  obtain ⟨A2, c2, rfl, hr2⟩ := h2
  have HR1 := Lib.hid hr1
  have HR2 := Lib.hid hr2
  clear hr1 hr2
  go_enter Tryz.func6, Tryz.ntmps6
  go_wp2_with fail
  go_loopw [13] (fun i wr => ∃ k : Nat, k ≤ l.length ∧ i = .int .i64 k ∧ Hid (∃ q, wr = w.drewN q)) (fun i _ => l.length - (intOf i).toNat)
  case atStart => exact ⟨0, Nat.zero_le _, rfl, ⟨0, rfl⟩⟩
  case round =>
    obtain ⟨k, hk, rfl, hq⟩ := hrel
    obtain ⟨q, rfl⟩ := hq.out
    clear hq
    by_cases hlt : k < l.length
    · obtain ⟨g1, rfl, -, -, hc1⟩ := HR1.out (by rintro rfl; simp at hlt)
      obtain ⟨g2, rfl, -, -, hc2⟩ := HR2.out (by rintro rfl; simp at hlt)
      have ht1 := hc1 k _ (List.getElem?_eq_getElem hlt)
      have ht2 := hc2 k _ (List.getElem?_eq_getElem hlt)
      clear hc1 hc2
      generalize l[k] = t at *
      obtain ⟨a0, a1, a2, a3⟩ := ht1
      obtain ⟨b0, b1, b2, b3⟩ := ht2
      have p1 : (0 : Int) ≤ (k : Int) := Int.natCast_nonneg _
      have p2 : (k : Int) < (l.length : Int) := by omega
      go_wp2_with fail
      go_quiet (fail)
      go_wp2_with fail
      go_roundw
      case rel => exact ⟨k + 1, by omega, by go_num, ⟨_, rfl⟩⟩
      case measure => simp [intOf]; omega
    · go_wp2_with fail
      go_ret
      exact ⟨rfl, q, rfl⟩

theorem flat_set : ∀ (L : List Tok) (k m : Nat) (t : Tok), L[k]? = some t → (L.flatMap Tok.cells).set (k * 4 + 3) (.int .i64 m) = (L.set k { t with line := m }).flatMap Tok.cells
  | [], k, m, t, h => by simp at h
  | x :: L, 0, m, t, h => by
    simp only [List.getElem?_cons_zero, Option.some.injEq] at h
    subst h
    rw [List.set_cons_zero, List.flatMap_cons, List.flatMap_cons]
    rfl
  | x :: L, k + 1, m, t, h => by
    rw [List.getElem?_cons_succ] at h
    rw [List.set_cons_succ, List.flatMap_cons, List.flatMap_cons, ← flat_set L k m t h, List.set_append_right _ _ (by simp [Tok.cells]; omega)]
    rw [show (k + 1) * 4 + 3 - x.cells.length = k * 4 + 3 by simp [Tok.cells]; omega]
theorem half_step (f : Tok → Tok) (l : List Tok) (k : Nat) (h : k < l.length) : ((l.take k).map f ++ l.drop k).set k (f l[k]) = (l.take (k + 1)).map f ++ l.drop (k + 1) := by
  have h1 : ((l.take k).map f).length = k := by rw [List.length_map, List.length_take]; omega
  rw [List.set_append_right _ _ (by omega), h1, Nat.sub_self, List.drop_eq_getElem_cons h, List.set_cons_zero, List.take_succ_eq_append_getElem h, List.map_append, List.append_assoc]
  rfl
theorem half_get (f : Tok → Tok) (l : List Tok) (k : Nat) (h : k < l.length) : ((l.take k).map f ++ l.drop k)[k]? = some l[k] := by
  have h1 : ((l.take k).map f).length = k := by rw [List.length_map, List.length_take]; omega
  rw [List.getElem?_append_right (by omega), h1, Nat.sub_self, List.drop_eq_getElem_cons h]
  rfl
theorem half_len (f : Tok → Tok) (l : List Tok) (k : Nat) (h : k ≤ l.length) : ((l.take k).map f ++ l.drop k).length = l.length := by
  rw [List.length_append, List.length_map, List.length_take, List.length_drop]; omega

/-- an owned row of n tokens whose lines are written one behind the other -/
def HalfRow (w : World) (B g n cap : Nat) (f : Tok → Tok) (l : List Tok) (k : Nat) : Prop :=
  w.ownsRow B 67 4 (.slice (some ⟨g, 0, none⟩) n cap) n (((l.take k).map f ++ l.drop k).flatMap Tok.cells)
theorem HalfRow.get {w : World} {B g n cap : Nat} {f : Tok → Tok} {l : List Tok} {k : Nat} (h : HalfRow w B g n cap f l k) (hn : n = l.length) (hk : k < l.length) (j : Nat) (hj : j < 4) :
    w.cell? ⟨g, k * 4 + j, none⟩ = l[k].cells[j]? := by
  have := World.ownsRow.cellAt h (k * 4 + j) (by omega)
  rw [this, flat_get _ k j _ (half_get f l k hk) hj]
theorem HalfRow.step {w : World} {B g n cap : Nat} {f : Tok → Tok} {l : List Tok} {k : Nat} (h : HalfRow w B g n cap f l k) (hk : k < l.length) (m : Nat) (hf : f l[k] = { l[k] with line := m }) :
    HalfRow (w.setCell ⟨g, k * 4 + 3, none⟩ (.int .i64 m)) B g n cap f l (k + 1) := by
  have := (World.ownsRow.stored h (k * 4 + 3) (.int .i64 m)).1
  rw [flat_set _ k m _ (half_get f l k hk), ← hf, half_step f l k hk] at this
  exact this

end Go.Proofs.YthepjanojmemaaaGreatDoor
