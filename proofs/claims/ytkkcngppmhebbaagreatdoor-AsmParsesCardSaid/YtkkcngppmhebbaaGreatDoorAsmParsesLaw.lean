/-
  AsmParses walked.
-/
import Derived.Test.YtkkcngppmhebbaaGreatDoorAsmAlive
import Derived.Test.YtkkcngppmhebbaaGreatDoorAsmLaw2
import Derived.Test.YtkkcngppmhebbaaGreatDoorRf18G
import Derived.Test.YtkkcngppmhebbaaGreatDoorBkApartO
set_option linter.unusedVariables false
set_option linter.unusedSimpArgs false
namespace Go.Proofs.YtkkcngppmhebbaaGreatDoor
open Go.RowKit

/-- what a reading answers, flat -/
def resOf : List Cmd ⊕ (Nat × Int) → List Cmd × Nat × Int
  | .inl l => (l, 0, 0)
  | .inr (n, er) => ([], n, er)
theorem ParsedIs.flat {R : List Cmd ⊕ (Nat × Int)} {H : Nat} {e : Ending} {w' : World} {l : List Cmd} {n : Nat} {er : Int} (h : ParsedIs R H e w') (hr : resOf R = (l, n, er)) :
    ∃ A c, e = .returned (.tuple #[.slice A l.length c, .int .i64 (n : Int), .int .i64 er]) ∧ w'.ownsRow H 79 6 (.slice A l.length c) l.length (l.flatMap Cmd.cells) := by
  match R, h, hr with
  | .inl l', h, hr =>
    obtain ⟨v, he, ho⟩ := h
    injection hr with h1 h2
    injection h2 with h2 h3
    subst h1 h2 h3
    obtain ⟨A, c, rfl⟩ := own_slice ho
    exact ⟨A, c, he, ho⟩
  | .inr (n', er'), h, hr =>
    injection hr with h1 h2
    injection h2 with h2 h3
    subst h1 h2 h3
    exact ⟨none, 0, h, World.ownsRow_nil _ _ _ _⟩
theorem resOf_len {s : List UInt8} {l : List Cmd} {n : Nat} {er : Int} (h : resOf (parseA s) = (l, n, er)) : l.length ≤ 65537 := by
  cases hp : parseA s with
  | inl l' => rw [hp] at h; injection h with h1 _; rw [← h1]; exact (parse_ok hp).2
  | inr p => rw [hp] at h; injection h with h1 _; rw [← h1]; simp
theorem cmdsAt_of {w : World} {B c : Nat} {A : Option Addr} {l : List Cmd} (h : w.ownsRow B 79 6 (.slice A l.length c) l.length (l.flatMap Cmd.cells)) : CmdsAt w w.heap.size A l := by
  obtain ⟨A', c', he, hc⟩ := cmds_of_own h rfl
  injection he with h1 _ _
  subst h1
  exact hc
set_option maxHeartbeats 1000000 in
theorem bookOps_any (K B : Nat) (kc : Array Value) (v : Value) (cnt : Int) (rows : List HRow) (A : Option Addr) (n cap : Nat) (xs : List Value) (w : World) (hB : B ≤ K) (hK : w.heap[K]? = some (.cells kc 55 (0, 0))) (hk : kc[7]? = some v) (hk0 : kc[0]? = some (.int .i64 cnt)) (hc0 : 0 ≤ cnt) (hc1 : cnt ≤ 1000)
    (hH : Held 79 124 6 B w v rows) (hn : rows.length ≤ 1000) (hr : w.ownsRow B 79 6 (.slice A n cap) n xs) (ha : ∀ (i : Nat) (a : HRow), rows[i]? = some a → ∀ g, a.v.ownBlock = some g → (Value.slice A n cap).ownBlock ≠ some g) :
    Calls Tryz.prog 7 #[.pointer (some ⟨K, 0, none⟩), .slice A n cap] w fun e w' => e = .returned (.tuple #[]) ∧
      (∃ v', w'.heap[K]? = some (.cells ((kc.setIfInBounds 7 v').setIfInBounds 0 (.int .i64 (cnt + 1))) 55 (0, 0)) ∧ Held 79 124 6 B w' v' (rows ++ [⟨.slice A n cap, n, xs, cnt⟩])) ∧ FrB B (fun t => t == 124 || t == 55) w w' := by
  have HC := Lib.hid (keepOp_any K B kc v cnt rows A n cap xs w hB hK hk hk0 hc0 hc1 hH hn hr ha)
  clear hK hk hk0 hH hr ha
  go_enter Tryz.func7, Tryz.ntmps7
  go_wp2_with fail
  refine HC.out.mono ?_
  rintro e w1 ⟨rfl, h1, h2⟩
  have H1 := Lib.hid h1
  have H2 := Lib.hid h2
  clear h1 h2 HC
  go_wp2_with fail
  go_end0
  exact ⟨rfl, H1.out, H2.out⟩
def kc0 : Array Value := #[.int .i64 0, .slice none 0 0, .slice none 0 0, .slice none 0 0, .slice none 0 0, .slice none 0 0, .slice none 0 0, .slice none 0 0, .slice none 0 0, .slice none 0 0, .slice none 0 0, .slice none 0 0, .slice none 0 0, .slice none 0 0, .slice none 0 0, .slice none 0 0, .slice none 0 0, .slice none 0 0, .slice none 0 0, .slice none 0 0, .slice none 0 0, .slice none 0 0, .slice none 0 0, .slice none 0 0, .slice none 0 0, .slice none 0 0, .slice none 0 0, .slice none 0 0]
theorem kc0_one : kc0.all (·.oneCell') = true := by simp [kc0, Value.oneCell']
theorem bookSize : (Tryz.prog.info? 55).map (·.size) = some kc0.size := by kernel_rfl
theorem kcS (kc : Array Value) (i : Nat) (v x : Value) (h : kc.size = 28) (hi : i < 28) (h0 : 0 ≠ i) :
    ((kc.setIfInBounds i v).setIfInBounds 0 x)[i]? = some v ∧ ((kc.setIfInBounds i v).setIfInBounds 0 x)[0]? = some x ∧ ((kc.setIfInBounds i v).setIfInBounds 0 x).size = 28 ∧ ∀ j, 0 ≠ j → i ≠ j → ((kc.setIfInBounds i v).setIfInBounds 0 x)[j]? = kc[j]? := by
  refine ⟨?_, ?_, by simp [h], fun j h1 h2 => ?_⟩
  · rw [Array.getElem?_setIfInBounds_ne h0, Array.getElem?_setIfInBounds_self_of_lt (by omega)]
  · rw [Array.getElem?_setIfInBounds_self_of_lt (by simp [h])]
  · rw [Array.getElem?_setIfInBounds_ne h1, Array.getElem?_setIfInBounds_ne h2]
theorem kc0_nil : ∀ i ∈ nilBk, kc0[i]? = some (.slice none 0 0) ∧ 0 ≠ i ∧ 7 ≠ i := by
  intro i hi
  simp only [nilBk, List.mem_cons, List.not_mem_nil, or_false] at hi
  rcases hi with rfl | rfl | rfl | rfl | rfl | rfl | rfl | rfl | rfl | rfl | rfl | rfl | rfl | rfl | rfl | rfl | rfl | rfl | rfl | rfl | rfl | rfl | rfl | rfl | rfl | rfl <;> exact ⟨rfl, by decide, by decide⟩
theorem row_apart {w : World} {B B2 e k n m c d : Nat} {A1 A2 : Option Addr} {xs ys : List Value} (h1 : w.ownsRow B e k (.slice A1 n c) n xs) {W : World} (h2 : W.ownsRow B2 e k (.slice A2 m d) m ys) (hB2 : w.heap.size ≤ B2) (num : Int) :
    ∀ (i : Nat) (a : HRow), ([⟨.slice A1 n c, n, xs, num⟩] : List HRow)[i]? = some a → ∀ g, a.v.ownBlock = some g → (Value.slice A2 m d).ownBlock ≠ some g := fun i a ha g hg e => by
  match i, ha with
  | 0, ha =>
    injection ha with ha
    subst ha
    have := (h1.lt g hg).2
    have := (h2.lt g e).1
    omega
  | i + 1, ha => simp at ha

set_option maxHeartbeats 8000000 in
set_option maxRecDepth 100000 in
theorem asmParses_walk (s : ByteArray) (hs : s.size ≤ 140737488355328) (w : World) (G : AGlobs w) :
    Calls Tryz.prog 3 #[.string s] w fun e w' => e = .returned (.bool true) ∧ Below w.heap.size w w' := by
  obtain ⟨L, rfl⟩ : ∃ L : List UInt8, s = ⟨L.toArray⟩ := ⟨s.data.toList, by simp⟩
  have hL : L.length ≤ 140737488355328 := by rw [← size_list L]; exact hs
  have HG := Lib.hid G
  have CP := Lib.hid (fun W (GW : AGlobs W) => aparse_any L hL W GW)
  have CR := Lib.hid (fun W => rparse18_any L W)
  have CA := Lib.hid (fun W GW => alive18_any W GW)
  obtain ⟨l, n, er, hres⟩ : ∃ l n er, resOf (parseA L) = (l, n, er) := ⟨_, _, _, rfl⟩
  have HRes := Lib.hid hres
  have HLn : Hid (l.length ≤ 65537) := Lib.hid (resOf_len hres)
  clear G hs hL hres
  obtain ⟨H, hH⟩ : ∃ H, w.heap.size = H := ⟨_, rfl⟩
  have HH := Lib.hid hH
  rw [hH]
  clear hH
  go_enter Tryz.func3, Tryz.ntmps3
  go_wp2_with fail
  refine (CP.out _ HG.out).mono ?_
  rintro e w1 ⟨hp, hb1⟩
  obtain ⟨A1, c1, rfl, ho1⟩ := hp.flat HRes.out
  rw [HH.out] at hb1 ho1
  have HB1 := Lib.hid hb1
  have HO1 := Lib.hid ho1
  have HG1 := Lib.hid (HG.out.below (HH.out ▸ hb1))
  clear hp hb1 ho1
  go_wp2_with fail
  refine (CP.out _ HG1.out).mono ?_
  rintro e w2 ⟨hp, hb2⟩
  obtain ⟨A2, c2, rfl, ho2⟩ := hp.flat HRes.out
  have HB12 := Lib.hid hb2
  have HB2 := Lib.hid (HB1.out.trans (hb2.mono (by have := HB1.out.size; rw [HH.out] at this; exact this)))
  have HO2 := Lib.hid ho2
  clear hp hb2 ho2 CP
  go_wp2_with fail
  refine (CR.out _).mono ?_
  rintro e w3 ⟨hp, hb3⟩
  obtain ⟨A3, c3, rfl, ho3⟩ := hp.flat HRes.out
  have HB23 := Lib.hid hb3
  have HB13 := Lib.hid (HB12.out.trans (hb3.mono HB12.out.size))
  have HB3 := Lib.hid (HB1.out.trans (HB13.out.mono (by have := HB1.out.size; rw [HH.out] at this; exact this)))
  have HC3 := Lib.hid (cmdsAt_of ho3)
  have HC1 := Lib.hid (cmdsAt_of (own_belowI HO1.out HB13.out))
  have HC2 := Lib.hid (cmdsAt_of (own_belowI HO2.out HB23.out))
  clear hp hb3 ho3 CR HG1
  have t1 : (er != er) = false := by simp
  have t2 : ((n : Int) != (n : Int)) = false := by simp
  go_wp2_with fail
  refine (sameOps_eq A1 A3 c1 c3 l w3 HC1.out HC3.out (by have := HLn.out; omega)).mono ?_
  rintro e w4 ⟨rfl, k4, hw4⟩
  have hb4 : Below w3.heap.size w3 w4 := by rw [hw4]; exact below_drewN _ _ _
  have HC2b := Lib.hid (hc_keep HC2.out hb4)
  have HC3b := Lib.hid (hc_keep HC3.out hb4)
  have HB34 := Lib.hid hb4
  clear hw4 hb4 HC1 HC2 HC3
  go_wp2_with fail
  refine (sameOps_eq A2 A3 c2 c3 l w4 HC2b.out HC3b.out (by have := HLn.out; omega)).mono ?_
  rintro e w5 ⟨rfl, k5, hw5⟩
  have hb5 : Below w4.heap.size w4 w5 := by rw [hw5]; exact below_drewN _ _ _
  have HB35 := Lib.hid (HB34.out.trans (hb5.mono HB34.out.size))
  clear hw5 hb5 HC2b HC3b HB34
  obtain ⟨K, hK⟩ : ∃ K, w5.heap.size = K := ⟨_, rfl⟩
  obtain ⟨w6, hw6⟩ : ∃ w6, w5.alloc (.cells #[.int .i64 0, .slice none 0 0, .slice none 0 0, .slice none 0 0, .slice none 0 0, .slice none 0 0, .slice none 0 0, .slice none 0 0, .slice none 0 0, .slice none 0 0, .slice none 0 0, .slice none 0 0, .slice none 0 0, .slice none 0 0, .slice none 0 0, .slice none 0 0, .slice none 0 0, .slice none 0 0, .slice none 0 0, .slice none 0 0, .slice none 0 0, .slice none 0 0, .slice none 0 0, .slice none 0 0, .slice none 0 0, .slice none 0 0, .slice none 0 0, .slice none 0 0] 55 (0, 0)) = w6 := ⟨_, rfl⟩
  have hK0 : w6.heap[K]? = some (.cells kc0 55 (0, 0)) := by rw [← hw6, ← hK]; exact heap_alloc_new w5 _
  have hb6 : Below w5.heap.size w5 w6 := by rw [← hw6]; exact (Below.refl _ _).alloc (Nat.le_refl _) _
  have h36 := HB35.out.trans (hb6.mono HB35.out.size)
  have h26 := HB23.out.trans (h36.mono HB23.out.size)
  have h16 := HB12.out.trans (h26.mono HB12.out.size)
  have HF6 : Hid (Below H w w6) := Lib.hid (HB1.out.trans (h16.mono (by have := HB1.out.size; rw [HH.out] at this; exact this)))
  have hHw : H ≤ w6.heap.size := by have := HF6.out.size; rw [HH.out] at this; exact this
  have hHK : H ≤ K := by
    have h1 := HB3.out.size
    have h2 := HB35.out.size
    have h3 := HH.out
    omega
  have HNR := Lib.hid (fun num => row_apart HO1.out HO2.out (Nat.le_refl _) num)
  have HO1 := Lib.hid (own_belowI HO1.out h16)
  have HO2 := Lib.hid (own_belowI (own_mono HO2.out (by have := HB1.out.size; rw [HH.out] at this; exact this)) h26)
  have hln : l.length ≤ 1000000000 := by have := HLn.out; omega
  have HN0 : Held 79 124 6 H w6 (.slice none 0 0) [] := ⟨World.ownsRow_nil _ _ _ _, fun i r h => by simp at h, fun i j a b h => by simp at h⟩
  have HK1 := Lib.hid (bookOps_any K H kc0 (.slice none 0 0) 0 [] A1 l.length c1 _ w6 hHK hK0 rfl rfl (by omega) (by omega) HN0 (by simp) HO1.out (fun i a h => by simp at h))
  clear hb6 HN0 h36 h26 h16 HB1 HB12 HB2 HB23 HB13 HB3 HB35
  go_wp2_with (refine wpList_store_row rfl 55 _ _ rfl K kc0 rfl rfl 55 kc0 hK0 bookSize rfl kc0_one ?_; rw [setRow_self _ _ _ _ _ hK0])
  clear hK0
  clear hw6 hK
  refine HK1.out.mono ?_
  rintro e w7 ⟨rfl, ⟨v1, hK1, hN1⟩, hf⟩
  obtain ⟨a1, a2, a3, a4⟩ := kcS kc0 7 v1 (.int .i64 (0 + 1)) rfl (by decide) (by decide)
  generalize (kc0.setIfInBounds 7 v1).setIfInBounds 0 (.int .i64 (0 + 1)) = kc1 at hK1 a1 a2 a3 a4
  have KA := Lib.hid a4
  have KA1 := Lib.hid a1
  have KA2 : Hid (kc1[0]? = some (.int .i64 1)) := Lib.hid a2
  clear a1 a2 a4
  have HK1 := Lib.hid hK1
  have HN1 := Lib.hid hN1
  have HO2 := Lib.hid (hf.own HO2.out (by decide))
  have HF7 := Lib.hid (HF6.out.trans (hf.below hHw))
  have hH7 : H ≤ w7.heap.size := Nat.le_trans hHw hf.size
  clear hf hK1 hN1 HF6
  go_wp2_with fail
  refine (bookOps_any K H kc1 v1 1 _ A2 l.length c2 _ w7 hHK HK1.out KA1.out KA2.out (by omega) (by omega) HN1.out (by simp) HO2.out (HNR.out 0)).mono ?_
  rintro e w8 ⟨rfl, ⟨v2, hK2, hN2⟩, hf⟩
  obtain ⟨a1, a2, b3, a4⟩ := kcS kc1 7 v2 (.int .i64 (1 + 1)) a3 (by decide) (by decide)
  generalize (kc1.setIfInBounds 7 v2).setIfInBounds 0 (.int .i64 (1 + 1)) = kc2 at hK2 a1 a2 b3 a4
  have KDN : Hid (∀ i ∈ nilBk, kc2[i]? = some (.slice none 0 0)) := Lib.hid (fun i hi => by
    obtain ⟨h1, h2, h3⟩ := kc0_nil i hi
    rw [a4 i h2 h3, KA.out i h2 h3]; exact h1)
  have KB1 := Lib.hid a1
  clear a1 a2 a4 a3 b3
  have HK2 := Lib.hid hK2
  have HN2 := Lib.hid hN2
  have HF8 := Lib.hid (HF7.out.trans (hf.below hH7))
  have hH8 : H ≤ w8.heap.size := Nat.le_trans hH7 hf.size
  clear hf hK2 hN2 HF7 HK1 HN1
  go_wp2_with fail
  refine (apart_any K H kc2 v2 _ w8 hH8 HK2.out KDN.out KB1.out HN2.out (by simp) (by intro r hr; simp at hr; rcases hr with rfl | rfl <;> (dsimp only; omega))).mono ?_
  rintro e w9 ⟨rfl, hf⟩
  have HF9 := Lib.hid (HF8.out.trans (hf.below hH8))
  clear hf HN2 HK2 HF8
  have HG9 := Lib.hid (HG.out.below (HH.out.symm ▸ HF9.out))
  go_wp2_with fail
  refine (CA.out _ HG9.out).mono ?_
  rintro e w10 ⟨rfl, hb⟩
  have HF10 := Lib.hid (HF9.out.trans (hb.mono (by have := HF9.out.size; rw [HH.out] at this; exact this)))
  go_wp2_with fail
  go_ret
  exact ⟨rfl, HF10.out⟩
end Go.Proofs.YtkkcngppmhebbaaGreatDoor
