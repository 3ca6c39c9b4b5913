/-
  LexTokens walked.
-/
import Derived.Test.YthepjanojmemaaaGreatDoorLexRefTokens
import Derived.Test.YthepjanojmemaaaGreatDoorLexSame
import Derived.Test.YthepjanojmemaaaGreatDoorBkApartT
set_option linter.unusedVariables false
set_option linter.unusedSimpArgs false
namespace Go.Proofs.YthepjanojmemaaaGreatDoor
open Go.RowKit

def kc0 : Array Value := #[.int .i64 0, .slice none 0 0, .slice none 0 0, .slice none 0 0, .slice none 0 0, .slice none 0 0, .slice none 0 0, .slice none 0 0, .slice none 0 0, .slice none 0 0, .slice none 0 0, .slice none 0 0, .slice none 0 0, .slice none 0 0, .slice none 0 0, .slice none 0 0, .slice none 0 0, .slice none 0 0, .slice none 0 0, .slice none 0 0, .slice none 0 0, .slice none 0 0, .slice none 0 0, .slice none 0 0, .slice none 0 0, .slice none 0 0, .slice none 0 0, .slice none 0 0]
theorem kc0_one : kc0.all (·.oneCell') = true := by simp [kc0, Value.oneCell']
theorem bookSize : (Tryz.prog.info? 55).map (·.size) = some kc0.size := by kernel_rfl
theorem kcS (kc : Array Value) (i : Nat) (v x : Value) (h : kc.size = 28) (hi : i < 28) (h0 : 0 ≠ i) :
    ((kc.setIfInBounds i v).setIfInBounds 0 x)[i]? = some v ∧ ((kc.setIfInBounds i v).setIfInBounds 0 x)[0]? = some x ∧ ((kc.setIfInBounds i v).setIfInBounds 0 x).size = 28 ∧ ∀ j, 0 ≠ j → i ≠ j → ((kc.setIfInBounds i v).setIfInBounds 0 x)[j]? = kc[j]? := by
  refine ⟨?_, ?_, by simp [h], fun j h1 h2 => ?_⟩
  · rw [Array.getElem?_setIfInBounds_ne h0, Array.getElem?_setIfInBounds_self_of_lt (by omega)]
  · rw [Array.getElem?_setIfInBounds_self_of_lt (by simp [h])]
  · rw [Array.getElem?_setIfInBounds_ne h1, Array.getElem?_setIfInBounds_ne h2]
theorem kc0_nil : ∀ i ∈ nilBk, kc0[i]? = some (.slice none 0 0) ∧ 0 ≠ i ∧ 12 ≠ i := by
  intro i hi
  simp only [nilBk, List.mem_cons, List.not_mem_nil, or_false] at hi
  rcases hi with rfl | rfl | rfl | rfl | rfl | rfl | rfl | rfl | rfl | rfl | rfl | rfl | rfl | rfl | rfl | rfl | rfl | rfl | rfl | rfl | rfl | rfl | rfl | rfl | rfl | rfl <;> exact ⟨rfl, by decide, by decide⟩
theorem row_new {w : World} {B e k n m c d : Nat} {A1 A2 : Option Addr} {xs ys : List Value} (h1 : w.ownsRow B e k (.slice A1 n c) n xs) {W : World} {B2 : Nat} (h2 : W.ownsRow B2 e k (.slice A2 m d) m ys) (hB2 : w.heap.size ≤ B2) (num : Int) :
    ∀ (i : Nat) (a : HRow), ([⟨.slice A1 n c, n, xs, num⟩] : List HRow)[i]? = some a → ∀ g, a.v.ownBlock = some g → (Value.slice A2 m d).ownBlock ≠ some g := fun i a ha g hg e => by
  match i, ha with
  | 0, ha =>
    injection ha with ha
    subst ha
    have := (h1.lt g hg).2
    have := (h2.lt g e).1
    omega
  | i + 1, ha => simp at ha

set_option maxHeartbeats 1000000 in
theorem bookTokens_any (K B : Nat) (kc : Array Value) (v : Value) (cnt : Int) (rows : List HRow) (A : Option Addr) (n cap : Nat) (xs : List Value) (w : World) (hB : B ≤ K) (hK : w.heap[K]? = some (.cells kc 55 (0, 0))) (hk : kc[12]? = some v) (hk0 : kc[0]? = some (.int .i64 cnt)) (hc0 : 0 ≤ cnt) (hc1 : cnt ≤ 1000)
    (hH : Held 67 79 4 B w v rows) (hn : rows.length ≤ 1000) (hr : w.ownsRow B 67 4 (.slice A n cap) n xs) (ha : ∀ (i : Nat) (a : HRow), rows[i]? = some a → ∀ g, a.v.ownBlock = some g → (Value.slice A n cap).ownBlock ≠ some g) :
    Calls Tryz.prog 7 #[.pointer (some ⟨K, 0, none⟩), .slice A n cap] w fun e w' => e = .returned (.tuple #[]) ∧
      (∃ v', w'.heap[K]? = some (.cells ((kc.setIfInBounds 12 v').setIfInBounds 0 (.int .i64 (cnt + 1))) 55 (0, 0)) ∧ Held 67 79 4 B w' v' (rows ++ [⟨.slice A n cap, n, xs, cnt⟩])) ∧ FrB B (fun t => t == 79 || t == 55) w w' := by
  have HC := Lib.hid (keepToken_any K B kc v cnt rows A n cap xs w hB hK hk hk0 hc0 hc1 hH hn hr ha)
  clear hK hk hk0 hH hr ha
  go_enter Tryz.func7, Tryz.ntmps7
  go_wp2_with fail
  refine HC.out.mono ?_
  rintro e w1 ⟨rfl, h1, h2⟩
  have H1 := Lib.hid h1
  have H2 := Lib.hid h2
  clear h1 h2 HC
  go_wp2_with fail
  go_end0
  exact ⟨rfl, H1.out, H2.out⟩

set_option maxHeartbeats 8000000 in
set_option maxRecDepth 100000 in
theorem lexTokens_list (s : List UInt8) (hs : s.length ≤ 140737488355328) (w : World) (G : LGlobs w) :
    Calls Tryz.prog 3 #[.string ⟨s.toArray⟩] w fun e w' => e = .returned (.bool true) ∧ Below w.heap.size w w' := by
  have HG := Lib.hid (fun W (h : Below w.heap.size w W) => (G.below h))
  have HT := Lib.hid (fun W (h : Below w.heap.size w W) => tokens_u s hs W (G.below h))
  have HR := Lib.hid (fun W => rtokens_u s hs W)
  have hln := lexV_len s
  unfold TokU at HT HR
  obtain ⟨⟨L, ln, er⟩, hV⟩ : ∃ V, lexV s = V := ⟨_, rfl⟩
  rw [hV] at HT HR hln
  dsimp only at HT HR hln
  clear hV G hs
  go_enter Tryz.func3, Tryz.ntmps3
  go_wp2_with fail
  refine (HT.out _ (Below.refl _ _)).mono ?_
  rintro e w1 ⟨hb, A1, c1, rfl, ho1⟩
  have HB1 := Lib.hid hb
  have HO1 := Lib.hid ho1
  clear hb ho1
  go_wp2_with fail
  refine (HT.out _ HB1.out).mono ?_
  rintro e w2 ⟨hb, A2, c2, rfl, ho2⟩
  have HB12 := Lib.hid hb
  have HB2 := Lib.hid (HB1.out.trans (hb.mono HB1.out.size))
  have HO2 := Lib.hid ho2
  clear hb ho2 HT
  go_wp2_with fail
  refine (HR.out _).mono ?_
  rintro e w3 ⟨hb, A3, c3, rfl, ho3⟩
  have HB23 := Lib.hid hb
  have HB3 := Lib.hid (HB2.out.trans (hb.mono HB2.out.size))
  have HO3 := Lib.hid ho3
  clear hb ho3 HR
  have hb1 := HB1.out.size
  have hb2 := HB2.out.size
  have hb3 := HB3.out.size
  have H13 := Lib.hid (HB12.out.trans (HB23.out.mono HB12.out.size))
  have HNR := Lib.hid (fun num => row_new HO1.out HO2.out (Nat.le_refl _) num)
  have HO1 := Lib.hid (own_belowI HO1.out H13.out)
  have HO2 := Lib.hid (own_belowI (own_base0 HO2.out (B' := w.heap.size) hb1) HB23.out)
  have HQ1 := Lib.hid (toks_of_own HO1.out)
  have HQ2 := Lib.hid (toks_of_own HO2.out)
  have HQ3 := Lib.hid (toks_of_own HO3.out)
  clear H13 HB12 HB23 HB1 HB2 hb1 hb2 HO3
  go_wp2_with fail
  refine (sameToks_eq _ _ L _ _ _ HQ1.out HQ3.out (by omega)).mono ?_
  rintro e w4 ⟨rfl, q1, rfl⟩
  have HB4 := Lib.hid (HB3.out.trans ((below_drewN w3.heap.size w3 q1).mono HB3.out.size))
  have HO1 := Lib.hid (own_drewN HO1.out q1)
  have HO2 := Lib.hid (own_drewN HO2.out q1)
  have HQ2 := Lib.hid (toks_of_own HO2.out)
  have HQ3 : Hid (Toks (w3.drewN q1) _ _ _) := Lib.hid (HQ3.out.below (below_drewN w3.heap.size w3 q1))
  clear HB3 HQ1
  generalize w3.drewN q1 = w4 at *
  go_wp2_with fail
  refine (sameToks_eq _ _ L _ _ _ HQ2.out HQ3.out (by omega)).mono ?_
  rintro e w5 ⟨rfl, q2, rfl⟩
  have HB5 := Lib.hid (HB4.out.trans ((below_drewN w4.heap.size w4 q2).mono HB4.out.size))
  have HO1 := Lib.hid (own_drewN HO1.out q2)
  have HO2 := Lib.hid (own_drewN HO2.out q2)
  clear HB4 HQ2 HQ3
  generalize w4.drewN q2 = w13 at *
  obtain ⟨K, hK⟩ : ∃ K, w13.heap.size = K := ⟨_, rfl⟩
  obtain ⟨w14, hw14⟩ : ∃ w14, w13.alloc (.cells #[.int .i64 0, .slice none 0 0, .slice none 0 0, .slice none 0 0, .slice none 0 0, .slice none 0 0, .slice none 0 0, .slice none 0 0, .slice none 0 0, .slice none 0 0, .slice none 0 0, .slice none 0 0, .slice none 0 0, .slice none 0 0, .slice none 0 0, .slice none 0 0, .slice none 0 0, .slice none 0 0, .slice none 0 0, .slice none 0 0, .slice none 0 0, .slice none 0 0, .slice none 0 0, .slice none 0 0, .slice none 0 0, .slice none 0 0, .slice none 0 0, .slice none 0 0] 55 (0, 0)) = w14 := ⟨_, rfl⟩
  have hK0 : w14.heap[K]? = some (.cells kc0 55 (0, 0)) := by rw [← hw14, ← hK]; exact heap_alloc_new w13 _
  have hb14 : Below w13.heap.size w13 w14 := by rw [← hw14]; exact (Below.refl _ _).alloc (Nat.le_refl _) _
  have HF14 := Lib.hid (HB5.out.trans (hb14.mono HB5.out.size))
  have HBK : w.heap.size ≤ K := by have := HB5.out.size; omega
  have HO1 := Lib.hid (own_belowI HO1.out hb14)
  have HO2 := Lib.hid (own_belowI HO2.out hb14)
  have HN0 : Held 67 79 4 w.heap.size w14 (.slice none 0 0) [] := ⟨World.ownsRow_nil _ _ _ _, fun i r h => by simp at h, fun i j a b h => by simp at h⟩
  have HK1 := Lib.hid (bookTokens_any K w.heap.size kc0 (.slice none 0 0) 0 [] A1 L.length c1 _ w14 HBK hK0 rfl rfl (by omega) (by omega) HN0 (by simp) HO1.out (fun i a h => by simp at h))
  clear hb14 HN0 HB5 HO1
  go_wp2_with (refine wpList_store_row rfl 55 _ _ rfl K kc0 rfl rfl 55 kc0 hK0 bookSize rfl kc0_one ?_; rw [setRow_self _ _ _ _ _ hK0])
  clear hK0
  clear hw14 hK
  refine HK1.out.mono ?_
  rintro e w15 ⟨rfl, ⟨v1, hK1, hN1⟩, hf⟩
  obtain ⟨a1, a2, a3, a4⟩ := kcS kc0 12 v1 (.int .i64 (0 + 1)) rfl (by decide) (by decide)
  generalize (kc0.setIfInBounds 12 v1).setIfInBounds 0 (.int .i64 (0 + 1)) = kc1 at hK1 a1 a2 a3 a4
  have KA := Lib.hid a4
  have KA1 := Lib.hid a1
  have KA2 : Hid (kc1[0]? = some (.int .i64 1)) := Lib.hid a2
  clear a1 a2 a4
  have HK1 := Lib.hid hK1
  have HN1 := Lib.hid hN1
  have HO2 := Lib.hid (hf.own HO2.out (by decide))
  have HF15 := Lib.hid (HF14.out.trans ((hf.below HF14.out.size)))
  clear hf hK1 hN1 HF14
  go_wp2_with fail
  refine (bookTokens_any K w.heap.size kc1 v1 1 _ A2 L.length c2 _ w15 HBK HK1.out KA1.out KA2.out (by omega) (by omega) HN1.out (by simp) HO2.out (HNR.out 0)).mono ?_
  rintro e w16 ⟨rfl, ⟨v2, hK2, hN2⟩, hf⟩
  obtain ⟨a1, a2, b3, a4⟩ := kcS kc1 12 v2 (.int .i64 (1 + 1)) a3 (by decide) (by decide)
  generalize (kc1.setIfInBounds 12 v2).setIfInBounds 0 (.int .i64 (1 + 1)) = kc2 at hK2 a1 a2 b3 a4
  have KB1 := Lib.hid a1
  have KDN : Hid (∀ i ∈ nilBk, kc2[i]? = some (.slice none 0 0)) := Lib.hid (fun i hi => by
    obtain ⟨h1, h2, h3⟩ := kc0_nil i hi
    rw [a4 i h2 h3, KA.out i h2 h3]; exact h1)
  clear a1 a2 a4 a3 b3
  have HK2 := Lib.hid hK2
  have HN2 := Lib.hid hN2
  have HF16 := Lib.hid (HF15.out.trans ((hf.below HF15.out.size)))
  clear hf hK2 hN2 HF15 HK1 HN1
  go_wp2_with fail
  refine (apart_any K w.heap.size kc2 v2 _ w16 HF16.out.size HK2.out KDN.out KB1.out HN2.out (by simp) (by intro r hr; simp at hr; rcases hr with rfl | rfl <;> (dsimp only; omega))).mono ?_
  rintro e w19 ⟨rfl, hf⟩
  have HF19 := Lib.hid (HF16.out.trans ((hf.below HF16.out.size)))
  clear hf HN2 HK2 HF16
  go_wp2_with fail
  refine (lalive_any _ (HG.out _ HF19.out)).mono ?_
  rintro e w20 ⟨rfl, hb⟩
  have HF20 := Lib.hid (HF19.out.trans (hb.mono HF19.out.size))
  clear hb HG HF19
  go_wp2_with fail
  go_ret
  exact ⟨rfl, HF20.out⟩
theorem lexTokens_walk (s : ByteArray) (hs : s.size ≤ 140737488355328) (w : World) (G : LGlobs w) :
    Calls Tryz.prog 3 #[.string s] w fun e w' => e = .returned (.bool true) ∧ Below w.heap.size w w' := by
  obtain ⟨l, rfl⟩ : ∃ l : List UInt8, s = ⟨l.toArray⟩ := ⟨s.data.toList, by simp⟩
  exact lexTokens_list l (by
    have : (⟨l.toArray⟩ : ByteArray).size = l.length := List.size_toArray
    omega) w G
end Go.Proofs.YthepjanojmemaaaGreatDoor
