/-
  effect: the way back to a function; plain facts, the map of those met.
-/
import Derived.Test.YtkklogikakcanaaDoorEffI
import Derived.Test.YtkklogikakcanaaDoorScopeI
set_option linter.unusedVariables false
set_option linter.unusedSimpArgs false
namespace Go.Proofs.YtkklogikakcanaaDoor
open Go Go.Maps Go.RowKit

mutual
theorem exCl_lt {p : Pr} : ∀ x : Ex, knE p x = true → ∀ m ∈ exCl p x, m < p.fs.length
  | .mk k n nm t d args, h, m, hm => by
    rw [knE, Bool.and_eq_true] at h
    rw [exCl] at hm
    rcases List.mem_append.1 hm with hm | hm
    · split at hm
      · next h7 =>
        have h1 := h.1
        rw [show decide (k ≠ 7) = false from decide_eq_false (fun e => e h7), Bool.false_or] at h1
        obtain ⟨i, hi⟩ := Option.isSome_iff_exists.1 h1
        rw [hi, Option.getD_some, List.mem_singleton] at hm
        subst hm
        exact funOf_lt hi
      · simp at hm
    · exact exCls_lt args h.2 m hm
theorem exCls_lt {p : Pr} : ∀ l : List Ex, knEs p l = true → ∀ m ∈ exCls p l, m < p.fs.length
  | [], _, m, hm => by rw [exCls] at hm; simp at hm
  | x :: r, h, m, hm => by
    rw [knEs, Bool.and_eq_true] at h
    rw [exCls] at hm
    rcases List.mem_append.1 hm with hm | hm
    · exact exCl_lt x h.1 m hm
    · exact exCls_lt r h.2 m hm
end
mutual
theorem stCl_lt {p : Pr} : ∀ s : St, knS p s = true → ∀ m ∈ stCl p s, m < p.fs.length
  | .mk k nm t x y bd body ed els, h, m, hm => by
    rw [knS] at h
    simp only [Bool.and_eq_true] at h
    rw [stCl] at hm
    rcases List.mem_append.1 hm with hm | hm
    · rcases List.mem_append.1 hm with hm | hm
      · exact exCl_lt x h.1.1 m hm
      · exact exCl_lt y h.1.2 m hm
    · rcases List.mem_append.1 hm with hm | hm
      · exact stCls_lt body h.2.1 m hm
      · exact stCls_lt els h.2.2 m hm
theorem stCls_lt {p : Pr} : ∀ l : List St, knSs p l = true → ∀ m ∈ stCls p l, m < p.fs.length
  | [], _, m, hm => by rw [stCls] at hm; simp at hm
  | s :: r, h, m, hm => by
    rw [knSs, Bool.and_eq_true] at h
    rw [stCls] at hm
    rcases List.mem_append.1 hm with hm | hm
    · exact stCl_lt s h.1 m hm
    · exact stCls_lt r h.2 m hm
end
theorem callsOf_lt {p : Pr} (KN : KnP p) (n : Nat) : ∀ m ∈ callsOf p n, m < p.fs.length := by
  unfold callsOf
  cases hf : p.fs[n]? with
  | none => intro m hm; simp at hm
  | some f => exact stCls_lt f.body (KN.fs f (List.mem_of_getElem? hf))
theorem sum_memC {α : Type} (g : α → Nat) : ∀ (l : List α) (x : α), x ∈ l → g x ≤ (l.map g).sum
  | y :: r, x, h => by
    simp only [List.map_cons, List.sum_cons]
    rcases List.mem_cons.1 h with rfl | h
    · omega
    · have := sum_memC g r x h; omega
theorem callsOf_len {p : Pr} {a : At} (h : chkPr p = .on a) (n : Nat) : (callsOf p n).length ≤ 1024 := by
  have g := (chkPr_on h).items
  unfold callsOf
  cases hf : p.fs[n]? with
  | none => simp
  | some f =>
    have h1 := stCls_len p f.body
    have h2 := sum_memC (fun f : Fu => stCounts f.body) p.fs f (List.mem_of_getElem? hf)
    unfold itemsOf at g
    dsimp only at h2 ⊢
    omega
/-- how many were not met -/
def zc (f : Nat → Nat) : Nat → Nat
  | 0 => 0
  | n + 1 => (if f n = 0 then 1 else 0) + zc f n
theorem zc_le {f g : Nat → Nat} (h : ∀ m, f m ≠ 0 → g m ≠ 0) : ∀ n, zc g n ≤ zc f n
  | 0 => Nat.le_refl _
  | n + 1 => by
    rw [zc, zc]
    have := zc_le h n
    by_cases hg : g n = 0
    · rw [if_pos hg, if_pos (Classical.byContradiction fun hf => h n hf hg)]; omega
    · rw [if_neg hg]; omega
theorem plus1_ne {f : Nat → Nat} {m : Nat} : ∀ k, f k ≠ 0 → plus1 f m k ≠ 0 := fun k h => by
  unfold plus1
  split
  · omega
  · exact h
theorem zc_old {f : Nat → Nat} {m : Nat} (h : f m ≠ 0) : ∀ n, zc (plus1 f m) n = zc f n
  | 0 => rfl
  | n + 1 => by
    rw [zc, zc, zc_old h n]
    congr 1
    unfold plus1
    by_cases e : n = m
    · subst e; rw [if_pos rfl, if_neg (by omega), if_neg h]
    · rw [if_neg e]
theorem zc_beyond {f : Nat → Nat} {m : Nat} : ∀ n, n ≤ m → zc (plus1 f m) n = zc f n
  | 0, _ => rfl
  | n + 1, h => by
    have e : plus1 f m n = f n := by unfold plus1; rw [if_neg (by omega)]
    rw [zc, zc, zc_beyond n (by omega), e]
theorem zc_new {f : Nat → Nat} {m : Nat} (h : f m = 0) : ∀ n, m < n → zc (plus1 f m) n + 1 = zc f n
  | 0, hm => by omega
  | n + 1, hm => by
    rw [zc, zc]
    by_cases e : n = m
    · subst e
      rw [zc_beyond n (Nat.le_refl _)]
      unfold plus1
      rw [if_pos rfl, if_neg (by omega), if_pos h]
      omega
    · have := zc_new h n (by omega)
      have e2 : plus1 f m n = f n := by unfold plus1; rw [if_neg e]
      rw [e2]
      omega
theorem zc_top (f : Nat → Nat) : ∀ n, zc f n ≤ n
  | 0 => Nat.le_refl _
  | n + 1 => by rw [zc]; have := zc_top f n; split <;> omega
/-! ### the map of those met -/
def bkF (f : Nat → Nat) (l : Lit) : Option Value := match l with
  | .int .i64 z => if 0 ≤ z ∧ f z.toNat ≠ 0 then some (.int .i64 (f z.toNat : Int)) else none
  | _ => none
theorem intK : Keyed Tryd.prog 3 := int_keyed Tryd.underlying3
theorem int_key {m : Nat} (h : m ≤ 1000000) : keyOf Tryd.prog 3 (.int .i64 (m : Int)) = some (.int .i64 (m : Int)) := keyOf_int_mk Tryd.underlying3 (by
  have e1 : IntKind.i64.min = -9223372036854775808 := by decide
  have e2 : IntKind.i64.max = 9223372036854775807 := by decide
  simp [Lit.wf, e1, e2]; omega)
abbrev BkAt (Mb n : Nat) (f : Nat → Nat) (w : World) : Prop := ValMap Tryd.prog 3 w Mb n (bkF f)
theorem bk_new (w : World) : BkAt w.heap.size 0 met0 (w.alloc (.map #[] 0)) := (ValMap.made Tryd.prog 3 w).congr fun l => by
  unfold bkF met0
  split
  · rw [if_neg (fun h => h.2 rfl)]
  · rfl
theorem bk_look {Mb n m : Nat} {f : Nat → Nat} {w : World} (h : BkAt Mb n f w) (hm : m ≤ 1000000) : (Instr.lookup 92 (.map (some Mb)) (.int .i64 (m : Int)) false).run Tryd.prog w = .ok (.int .i64 (f m : Int)) w := by
  have := ValMap.look1 h intK Tryd.underlying92 (z := .int .i64 0) (by kernel_rfl) (int_key hm)
  rw [this]
  unfold bkF
  dsimp only
  rw [Int.toNat_natCast]
  by_cases h0 : f m = 0
  · rw [if_neg (fun hh => hh.2 h0), h0]; rfl
  · rw [if_pos ⟨Int.natCast_nonneg _, h0⟩]; rfl
theorem bk_put {Mb n m : Nat} {f : Nat → Nat} {w : World} (h : BkAt Mb n f w) (hm : m ≤ 1000000) (hn : n < maxLen) :
    ∃ w2, (Instr.mapUpdate 92 (.map (some Mb)) (.int .i64 (m : Int)) (.int .i64 ((f m : Int) + 1))).run Tryd.prog w = .ok () w2 ∧ BkAt Mb (n + 1) (plus1 f m) w2 ∧ Kq Mb w w2 := by
  obtain ⟨w2, r2, m2, g2⟩ := ValMap.put h intK Tryd.underlying92 hn (v := .int .i64 ((f m : Int) + 1)) (int_key hm)
  refine ⟨w2, r2, m2.congr fun l => ?_, Kept.grown g2⟩
  by_cases hl : l = .int .i64 (m : Int)
  · subst hl
    rw [updL_same]
    unfold bkF plus1
    dsimp only
    rw [Int.toNat_natCast, if_pos rfl, if_pos ⟨Int.natCast_nonneg _, by omega⟩]
    push_cast
    rfl
  · rw [updL_ne hl]
    unfold bkF plus1
    split
    · next z =>
      by_cases hz : 0 ≤ z
      · have hzm : z.toNat ≠ m := fun e => hl (by rw [← e, Int.toNat_of_nonneg hz])
        rw [if_neg hzm]
      · rw [if_neg (fun hh => hz hh.1), if_neg (fun hh => hz hh.1)]
    · rfl
/-- what a look for a way back holds -/
structure BgAt (K2 I2 Mc Gc Mb Ke i : Nat) (w : World) : Prop where
  k : w.heap[K2]? = some (.cells #[.pointer (some ⟨Ke, 0, none⟩)] 58 (0, 0))
  i : w.heap[I2]? = some (.cells #[.int .i64 (i : Int)] 3 (0, 0))
  m : w.heap[Mc]? = some (.cells #[.map (some Mb)] 92 (0, 0))
  g : w.heap[Gc]? = some (.cells #[.func (.func 44) #[] #[.pointer (some ⟨K2, 0, none⟩), .pointer (some ⟨I2, 0, none⟩), .pointer (some ⟨Mc, 0, none⟩), .pointer (some ⟨Gc, 0, none⟩)]] 64 (0, 0))
  ne : K2 ≠ Mb ∧ I2 ≠ Mb ∧ Mc ≠ Mb ∧ Gc ≠ Mb
theorem BgAt.kept {K2 I2 Mc Gc Mb Ke i : Nat} {w w' : World} (h : BgAt K2 I2 Mc Gc Mb Ke i w) (hk : Kq Mb w w') : BgAt K2 I2 Mc Gc Mb Ke i w' :=
  ⟨(hk.block _ (blk_lt h.k) h.ne.1).trans h.k, (hk.block _ (blk_lt h.i) h.ne.2.1).trans h.i, (hk.block _ (blk_lt h.m) h.ne.2.2.1).trans h.m, (hk.block _ (blk_lt h.g) h.ne.2.2.2).trans h.g, h.ne⟩
theorem EfIs.keptQ {B Kb Rb Fb Sb Ke Db Tb Mb : Nat} {p : Pr} {s : EfS} {w w' : World} (h : EfIs B Kb Rb Fb Sb Ke Db Tb p s w) (hne : (Mb ≠ Kb ∧ Mb ≠ Rb ∧ Mb ≠ Fb ∧ Mb ≠ Sb) ∧ (Mb ≠ Ke ∧ Mb ≠ Db ∧ Mb ≠ Tb) ∧ B ≤ Mb) (hk : Kq Mb w w') : EfIs B Kb Rb Fb Sb Ke Db Tb p s w' :=
  ⟨h.sc.kept hk (fun e => hne.1.1 e.symm) (fun e => hne.1.2.1 e.symm) (fun e => hne.1.2.2.1 e.symm) (fun e => hne.1.2.2.2 e.symm) (fun k e => by rw [e]; exact hne.2.2),
    (hk.block Ke (blk_lt h.k) (fun e => hne.2.1.1 e.symm)).trans h.k, (hk.block Db (blk_lt h.d) (fun e => hne.2.1.2.1 e.symm)).trans h.d, (hk.block Tb (blk_lt h.t) (fun e => hne.2.1.2.2 e.symm)).trans h.t,
    h.dl, h.tl, h.good, h.inv, h.few, h.far, h.ne⟩
/-- a row of numbers, read -/
theorem num_at {Bo : Nat} {w : World} {v : Value} {l : List Nat} (h : w.ownsRow Bo 3 1 v l.length (numV l)) : (v = .slice none 0 0 ∧ l = []) ∨ ∃ g cp cur, v = .slice (some ⟨g, 0, none⟩) l.length cp ∧ w.heap[g]? = some (.cells cur 3 (0, 0)) ∧ ∀ (j m : Nat), l[j]? = some m → cur[j]? = some (.int .i64 (m : Int)) := by
  rcases h.2 with ⟨rfl, h0⟩ | ⟨g, cp, cur, rfl, -, hg, -, -, -, ht⟩
  · exact Or.inl ⟨rfl, List.length_eq_zero_iff.1 h0⟩
  · refine Or.inr ⟨g, cp, cur, rfl, hg, fun j m hj => ?_⟩
    have hlt := (List.getElem?_eq_some_iff.1 hj).1
    have h1 : (numV l)[j]? = some (.int .i64 (m : Int)) := by rw [List.getElem?_map, hj]; rfl
    rw [← ht, List.getElem?_take, if_pos (by omega)] at h1
    rwa [Array.getElem?_toList] at h1
end Go.Proofs.YtkklogikakcanaaDoor
namespace Go.Proofs.YtkklogikakcanaaDoor
open Go Go.Maps Go.RowKit

set_option maxHeartbeats 40000000 in
set_option maxRecDepth 100000 in
theorem back1_any (B Kb Rb Fb Sb Ke Db Tb K2 I2 Mc Gc Mb : Nat) (p : Pr) (KN : KnP p) (s : EfS) (i : Nat) (hlen : ∀ n, (callsOf p n).length ≤ 1024) (hN : p.fs.length ≤ 1000000) (hne : (Mb ≠ Kb ∧ Mb ≠ Rb ∧ Mb ≠ Fb ∧ Mb ≠ Sb) ∧ (Mb ≠ Ke ∧ Mb ≠ Db ∧ Mb ≠ Tb) ∧ B ≤ Mb) :
    ∀ (z n : Nat) (f : Nat → Nat) (T : Nat) (w : World), zc f p.fs.length ≤ z → n < p.fs.length → EfIs B Kb Rb Fb Sb Ke Db Tb p s w → BgAt K2 I2 Mc Gc Mb Ke i w → BkAt Mb T f w → (∀ m, f m ≤ T) → T + zc f p.fs.length * 1024 + 1024 ≤ 2000000000 →
    Calls Tryd.prog 44 #[.int .i64 (n : Int), .pointer (some ⟨K2, 0, none⟩), .pointer (some ⟨I2, 0, none⟩), .pointer (some ⟨Mc, 0, none⟩), .pointer (some ⟨Gc, 0, none⟩)] w
      fun e w' => ∃ (b : Bool) (f' : Nat → Nat) (T' : Nat), e = .returned (.bool b) ∧ BkN p i f n b f' ∧ BkAt Mb T' f' w' ∧ (∀ m, f' m ≤ T') ∧ T' + zc f' p.fs.length * 1024 ≤ T + zc f p.fs.length * 1024 + 1024 ∧ (∀ m, f m ≠ 0 → f' m ≠ 0) ∧ Kq Mb w w' := by
  intro z
  induction z using Nat.strongRecOn with
  | ind z ih =>
  intro n f T w hz hn hE hBg hMp hfT hC
  have CL := Lib.hid (calls_any B Kb Rb Fb Sb Ke Db Tb p KN s w hE n hn (by have := hlen n; omega))
  have HLen : Hid ((callsOf p n).length ≤ 1024 ∧ ∀ m ∈ callsOf p n, m < p.fs.length) := Lib.hid ⟨hlen n, callsOf_lt KN n⟩
  have k2 := cell_at hBg.k 0
  simp only [List.getElem?_toArray, List.getElem?_cons_zero] at k2
  have HE := Lib.hid hE
  have HBg0 := Lib.hid hBg
  have HM0 := Lib.hid hMp
  have HT0 := Lib.hid (And.intro hfT hC)
  have HIh : Hid (∀ z', z' < zc f p.fs.length → ∀ (n : Nat) (f : Nat → Nat) (T : Nat) (w : World), zc f p.fs.length ≤ z' → n < p.fs.length → EfIs B Kb Rb Fb Sb Ke Db Tb p s w → BgAt K2 I2 Mc Gc Mb Ke i w → BkAt Mb T f w → (∀ m, f m ≤ T) → T + zc f p.fs.length * 1024 + 1024 ≤ 2000000000 →
    Calls Tryd.prog 44 #[.int .i64 (n : Int), .pointer (some ⟨K2, 0, none⟩), .pointer (some ⟨I2, 0, none⟩), .pointer (some ⟨Mc, 0, none⟩), .pointer (some ⟨Gc, 0, none⟩)] w
      fun e w' => ∃ (b : Bool) (f' : Nat → Nat) (T' : Nat), e = .returned (.bool b) ∧ BkN p i f n b f' ∧ BkAt Mb T' f' w' ∧ (∀ m, f' m ≤ T') ∧ T' + zc f' p.fs.length * 1024 ≤ T + zc f p.fs.length * 1024 + 1024 ∧ (∀ m, f m ≠ 0 → f' m ≠ 0) ∧ Kq Mb w w') := Lib.hid fun z' hz' => ih z' (by omega)
  have HMn : Hid (BkL p i f (callsOf p n) = BkL p i f (callsOf p n) ∧ ∀ b f', BkL p i f (callsOf p n) b f' → BkN p i f n b f') := Lib.hid ⟨rfl, fun b f' h => .mk h⟩
  have HNe := Lib.hid hne
  have HN1 := Lib.hid hN
  generalize callsOf p n = l at *
  clear hE hBg hMp hfT hC ih hz hlen hn KN hne hN
  go_enter Tryd.func44, Tryd.ntmps44
  go_wp2_with fail
  refine CL.out.mono ?_
  rintro e w5 ⟨v, rfl, hown, hb5⟩
  have HE5 := Lib.hid (HE.out.below hb5)
  have HK5 : Hid (Kq Mb w w5) := Lib.hid (Kept.of_below hb5)
  have HBg5 := Lib.hid (HBg0.out.kept HK5.out)
  have HM5 := Lib.hid (HM0.out.of_block (hb5.block Mb HM0.out.lt))
  clear hb5 CL k2 HE HBg0 HM0
  rcases num_at hown with ⟨rfl, rfl⟩ | ⟨g, cp, cur, rfl, hg, hcur⟩
  · have HF := Lib.hid (HMn.out.2 false f .nil)
    clear hown
    go_wp2_with fail
    refine wp_loop_rounds 1 ?_
    rw [rounds_succ]
    go_wp2_with fail
    go_ret
    exact ⟨false, f, T, rfl, HF.out, HM5.out, HT0.out.1, by omega, fun m h => h, HK5.out⟩
  · have hgM : g ≠ Mb := fun e => by
      obtain ⟨es, ck, h⟩ := HM5.out.block
      rw [← e, hg] at h
      simp at h
    have HCur : Hid (∀ W, Kq Mb w5 W → ∀ (j m : Nat), l[j]? = some m → W.cell? ⟨g, j, none⟩ = some (.int .i64 (m : Int))) := Lib.hid fun W hk j m hj => (cell_at ((hk.block g (blk_lt hg) hgM).trans hg) j).trans (hcur j m hj)
    have hll : l.length ≤ 1024 := HLen.out.1
    have HMt : Hid (∀ b f', BkL p i f l b f' → BkN p i f n b f') := Lib.hid HMn.out.2
    have HBg : Hid (∀ W, Kq Mb w5 W → BgAt K2 I2 Mc Gc Mb Ke i W) := Lib.hid fun W hk => HBg5.out.kept hk
    have HEf : Hid (∀ W, Kq Mb w5 W → EfIs B Kb Rb Fb Sb Ke Db Tb p s W) := Lib.hid fun W hk => HE5.out.keptQ HNe.out hk
    have HAc0 : Hid (T + zc f p.fs.length * 1024 + (l.length - 0) ≤ T + zc f p.fs.length * 1024 + 1024 ∧ (∀ b g, BkL p i f (l.drop 0) b g → BkL p i f l b g) ∧ (∀ m, f m ≠ 0 → f m ≠ 0) ∧ ∀ m, f m ≤ T) := Lib.hid ⟨by omega, fun b g h => by rw [List.drop_zero] at h; exact h, fun m h => h, HT0.out.1⟩
    have HKr : Hid (Kq Mb w5 w5) := Lib.hid (Kept.refl _ _)
    clear hown hg hcur hgM HMn HE5 HBg5
    go_wp2_with fail
    go_loopw [13] (fun ii wr => ∃ (j : Nat) (f1 : Nat → Nat) (T1 : Nat), ii = .int .i64 j ∧ j ≤ l.length ∧ Hid (BkAt Mb T1 f1 wr) ∧ Hid (T1 + zc f1 p.fs.length * 1024 + (l.length - j) ≤ T + zc f p.fs.length * 1024 + 1024 ∧ (∀ b g, BkL p i f1 (l.drop j) b g → BkL p i f l b g) ∧ (∀ m, f m ≠ 0 → f1 m ≠ 0) ∧ ∀ m, f1 m ≤ T1) ∧ Hid (Kq Mb w5 wr)) (fun ii _ => l.length - (intOf ii).toNat)
    case atStart => exact ⟨0, f, T, rfl, Nat.zero_le _, HM5, HAc0, HKr⟩
    case round =>
      obtain ⟨j, f1, T1, rfl, hj, hM, hAc, hK⟩ := hrel
      clear HM5 HAc0 HKr
      have p2 : (0 : Int) ≤ (j : Int) := Int.natCast_nonneg _
      by_cases hlt : j < l.length
      · obtain ⟨m, hm⟩ : ∃ m, l[j]? = some m := ⟨_, List.getElem?_eq_getElem hlt⟩
        have hdrop : l.drop j = m :: l.drop (j + 1) := by
          have := List.drop_eq_getElem_cons hlt
          rw [List.getElem?_eq_getElem hlt] at hm
          injection hm with hm
          rw [this, hm]
        have hmN := HLen.out.2 m (List.mem_of_getElem? hm)
        have hmb : m ≤ 1000000 := by have := HN1.out; omega
        have cj := HCur.out _ hK.out j m hm
        have hBg := HBg.out _ hK.out
        have i0 := cell_at hBg.i 0
        have m0 := cell_at hBg.m 0
        simp only [List.getElem?_toArray, List.getElem?_cons_zero] at i0 m0
        have p1 : (j : Int) < (l.length : Int) := by omega
        have hA := hAc.out
        rw [hdrop] at hA
        have hTl : T1 ≤ 2000000000 := by have := HT0.out.2; have := hA.1; omega
        have HA := Lib.hid hA
        by_cases hmi : m = i
        · have bmi : ((m : Int) == (i : Int)) = true := by rw [hmi]; simp
          have HF := Lib.hid (HMt.out true f1 (HA.out.2.1 true f1 (.hit hmi)))
          have HKf := Lib.hid (HK5.out.trans hK.out)
          clear hdrop hm hA hmi
          go_wp2_with fail
          go_ret
          exact ⟨true, f1, T1, rfl, HF.out, hM.out, HA.out.2.2.2, by have := HA.out.1; omega, HA.out.2.2.1, HKf.out⟩
        · have bmi : ((m : Int) == (i : Int)) = false := by simp; omega
          obtain ⟨w2, up, hM2, hk2⟩ := bk_put hM.out hmb (by unfold maxLen; omega)
          have lk := bk_look hM.out hmb
          have lk2 := bk_look hM2 hmb
          rw [show plus1 f1 m m = f1 m + 1 from if_pos rfl] at lk2
          have HM2 := Lib.hid hM2
          have HK2 := Lib.hid (hK.out.trans hk2)
          have hBg2 := HBg.out _ HK2.out
          have m2 := cell_at hBg2.m 0
          have g2 := cell_at hBg2.g 0
          simp only [List.getElem?_toArray, List.getElem?_cons_zero] at m2 g2
          have HT1 : Hid (∀ q, plus1 f1 m q ≤ T1 + 1) := Lib.hid fun q => by
            have h1 := HA.out.2.2.2 m
            have h2 := HA.out.2.2.2 q
            unfold plus1
            split <;> omega
          have HNz : Hid (∀ q, f q ≠ 0 → plus1 f1 m q ≠ 0) := Lib.hid fun q h => plus1_ne q (HA.out.2.2.1 q h)
          have HHm := Lib.hid hmN
          by_cases hf0 : f1 m = 0
          · rw [hf0] at lk up lk2
            have hzn := zc_new hf0 p.fs.length hmN
            have HI := Lib.hid (HIh.out (zc (plus1 f1 m) p.fs.length) (by have := zc_le HA.out.2.2.1 p.fs.length; omega) m (plus1 f1 m) (T1 + 1) w2 (Nat.le_refl _) hmN (HEf.out _ HK2.out) hBg2 hM2 HT1.out (by have := HT0.out.2; have := HA.out.1; omega))
            have HZ : Hid (T1 + 1 + zc (plus1 f1 m) p.fs.length * 1024 + 1024 = T1 + zc f1 p.fs.length * 1024 + 1) := Lib.hid (by omega)
            have HFd : Hid (∀ f2, BkN p i (plus1 f1 m) m true f2 → BkN p i f n true f2) := Lib.hid fun f2 h => HMt.out true f2 (HA.out.2.1 true f2 (.found hmi hf0 h))
            have HOn : Hid (∀ f2, BkN p i (plus1 f1 m) m false f2 → ∀ b g, BkL p i f2 (l.drop (j + 1)) b g → BkL p i f l b g) := Lib.hid fun f2 h b g hr => HA.out.2.1 b g (.on hmi hf0 h hr)
            clear hdrop hm hA hmi hzn hM hM2 hk2 hBg2 hBg hf0 hAc hK
            simp only [Int.natCast_zero, Int.zero_add, Nat.zero_add, Int.natCast_one, Int.ofNat_zero] at lk up lk2
            go_wp2_with fail
            refine HI.out.mono ?_
            rintro e w7 ⟨b, f2, T2, rfl, hb, hM7, hT7, hZ7, hN7, hk7⟩
            have HK7 : Hid (Kq Mb w5 w7) := Lib.hid (HK2.out.trans hk7)
            have HM7 := Lib.hid hM7
            have HA7 : Hid (T2 + zc f2 p.fs.length * 1024 + (l.length - (j + 1)) ≤ T + zc f p.fs.length * 1024 + 1024 ∧ (∀ m, f m ≠ 0 → f2 m ≠ 0) ∧ ∀ m, f2 m ≤ T2) := Lib.hid ⟨by have := HA.out.1; have := HZ.out; omega, fun q h => hN7 q (HNz.out q h), hT7⟩
            cases b with
            | true =>
              have HF := Lib.hid (HFd.out f2 hb)
              have HKf := Lib.hid (HK5.out.trans HK7.out)
              clear hb hM7 hT7 hZ7 hN7 hk7 HI lk up lk2 cj i0 m0 m2 g2
              go_wp2_with fail
              go_ret
              exact ⟨true, f2, T2, rfl, HF.out, HM7.out, HA7.out.2.2, by have := HA7.out.1; omega, HA7.out.2.1, HKf.out⟩
            | false =>
              have HAn : Hid (T2 + zc f2 p.fs.length * 1024 + (l.length - (j + 1)) ≤ T + zc f p.fs.length * 1024 + 1024 ∧ (∀ b g, BkL p i f2 (l.drop (j + 1)) b g → BkL p i f l b g) ∧ (∀ m, f m ≠ 0 → f2 m ≠ 0) ∧ ∀ m, f2 m ≤ T2) := Lib.hid ⟨HA7.out.1, HOn.out f2 hb, HA7.out.2.1, HA7.out.2.2⟩
              clear hb hM7 hT7 hZ7 hN7 hk7 HI lk up lk2 cj i0 m0 m2 g2
              go_wp2_with fail
              go_roundw
              case rel => exact ⟨j + 1, f2, T2, by go_num, by omega, HM7, HAn, HK7⟩
              case measure => simp [intOf]; omega
          · have hzo := zc_old hf0 p.fs.length
            obtain ⟨c, hc⟩ : ∃ c, f1 m = c := ⟨_, rfl⟩
            rw [hc] at lk up lk2
            have hcT : c ≤ 2000000000 := by have := HA.out.2.2.2 m; omega
            have hc1 : (((c : Int) + 1) == 1) = false := by simp; omega
            have HAn : Hid (T1 + 1 + zc (plus1 f1 m) p.fs.length * 1024 + (l.length - (j + 1)) ≤ T + zc f p.fs.length * 1024 + 1024 ∧ (∀ b g, BkL p i (plus1 f1 m) (l.drop (j + 1)) b g → BkL p i f l b g) ∧ (∀ q, f q ≠ 0 → plus1 f1 m q ≠ 0) ∧ ∀ q, plus1 f1 m q ≤ T1 + 1) := Lib.hid ⟨by have := HA.out.1; rw [hzo]; omega, fun b g h => HA.out.2.1 b g (.met hmi hf0 h), HNz.out, HT1.out⟩
            rw [show ((c + 1 : Nat) : Int) = (c : Int) + 1 by push_cast; rfl] at lk2
            clear hdrop hm hA hmi hzo hM hM2 hk2 hBg2 hBg hf0 hc hAc hK
            go_wp2_with fail
            go_roundw
            case rel => exact ⟨j + 1, _, T1 + 1, by go_num, by omega, HM2, HAn, HK2⟩
            case measure => simp [intOf]; omega
      · obtain rfl : j = l.length := by omega
        have HF := Lib.hid (HMt.out false f1 (hAc.out.2.1 false f1 (by rw [List.drop_length]; exact .nil)))
        have HKf := Lib.hid (HK5.out.trans hK.out)
        go_wp2_with fail
        go_ret
        exact ⟨false, f1, T1, rfl, HF.out, hM.out, hAc.out.2.2.2, by have := hAc.out.1; omega, hAc.out.2.2.1, HKf.out⟩
end Go.Proofs.YtkklogikakcanaaDoor
namespace Go.Proofs.YtkklogikakcanaaDoor
open Go Go.Maps Go.RowKit

set_option maxHeartbeats 8000000 in
set_option maxRecDepth 100000 in
theorem back_any (B Kb Rb Fb Sb Ke Db Tb : Nat) (p : Pr) (KN : KnP p) (s : EfS) (w : World) (h0 : EfIs B Kb Rb Fb Sb Ke Db Tb p s w) (hlen : ∀ n, (callsOf p n).length ≤ 1024) (hN : p.fs.length ≤ 1000000) (i : Nat) (hi : i < p.fs.length) :
    Calls Tryd.prog 25 #[.pointer (some ⟨Ke, 0, none⟩), .int .i64 (i : Int)] w fun e w' => ∃ b : Bool, e = .returned (.bool b) ∧ Back p i b ∧ Below w.heap.size w w' := by
  have hmf : ∀ (fn : Fn) (first cap : Array Value) (w : World), (Instr.makeFunc fn first cap).run Tryd.prog w = .ok (.func fn first cap) w := fun _ _ _ _ => rfl
  obtain ⟨X, hX⟩ : ∃ X, w.heap.size = X := ⟨_, rfl⟩
  obtain ⟨w1, hw1⟩ : ∃ w1, w.alloc (.cells #[.pointer (some ⟨Ke, 0, none⟩)] 58 (0, 0)) = w1 := ⟨_, rfl⟩
  obtain ⟨w2, hw2⟩ : ∃ w2, w1.alloc (.cells #[.int .i64 (i : Int)] 3 (0, 0)) = w2 := ⟨_, rfl⟩
  obtain ⟨w3, hw3⟩ : ∃ w3, w2.alloc (.map #[] 0) = w3 := ⟨_, rfl⟩
  obtain ⟨w4, hw4⟩ : ∃ w4, w3.alloc (.cells #[.map (some (X + 1 + 1))] 92 (0, 0)) = w4 := ⟨_, rfl⟩
  obtain ⟨w5, hw5⟩ : ∃ w5, w4.alloc (.cells #[.func (.func 44) #[] #[.pointer (some ⟨X, 0, none⟩), .pointer (some ⟨X + 1, 0, none⟩), .pointer (some ⟨X + 1 + 1 + 1, 0, none⟩), .pointer (some ⟨X + 1 + 1 + 1 + 1, 0, none⟩)]] 64 (0, 0)) = w5 := ⟨_, rfl⟩
  have hb1 : Below w.heap.size w w1 := by rw [← hw1]; exact (Below.refl _ _).alloc (Nat.le_refl _) _
  have hb2 : Below w1.heap.size w1 w2 := by rw [← hw2]; exact (Below.refl _ _).alloc (Nat.le_refl _) _
  have hb3 : Below w2.heap.size w2 w3 := by rw [← hw3]; exact (Below.refl _ _).alloc (Nat.le_refl _) _
  have hb4 : Below w3.heap.size w3 w4 := by rw [← hw4]; exact (Below.refl _ _).alloc (Nat.le_refl _) _
  have hb5 : Below w4.heap.size w4 w5 := by rw [← hw5]; exact (Below.refl _ _).alloc (Nat.le_refl _) _
  have s1 : w1.heap.size = X + 1 := by rw [← hw1, World.size_alloc, hX]
  have s2 : w2.heap.size = X + 1 + 1 := by rw [← hw2, World.size_alloc, s1]
  have s3 : w3.heap.size = X + 1 + 1 + 1 := by rw [← hw3, World.size_alloc, s2]
  have s4 : w4.heap.size = X + 1 + 1 + 1 + 1 := by rw [← hw4, World.size_alloc, s3]
  have b35 : Below w3.heap.size w3 w5 := hb4.trans (hb5.mono hb4.size)
  have b25 : Below w2.heap.size w2 w5 := hb3.trans (b35.mono hb3.size)
  have b15 : Below w1.heap.size w1 w5 := hb2.trans (b25.mono hb2.size)
  have b05 : Below w.heap.size w w5 := hb1.trans (b15.mono hb1.size)
  have xk : w5.heap[X]? = some (.cells #[.pointer (some ⟨Ke, 0, none⟩)] 58 (0, 0)) := (b15.block X (by omega)).trans (by rw [← hw1, ← hX]; exact heap_alloc_new w _)
  have xi : w5.heap[X + 1]? = some (.cells #[.int .i64 (i : Int)] 3 (0, 0)) := (b25.block (X + 1) (by omega)).trans (by rw [← hw2, ← s1]; exact heap_alloc_new w1 _)
  have xm : BkAt (X + 1 + 1) 0 met0 w5 := by
    have h := bk_new w2
    rw [hw3, s2] at h
    exact h.of_block (b35.block (X + 1 + 1) (by omega))
  have xc : w5.heap[X + 1 + 1 + 1]? = some (.cells #[.map (some (X + 1 + 1))] 92 (0, 0)) := (hb5.block (X + 1 + 1 + 1) (by omega)).trans (by rw [← hw4, ← s3]; exact heap_alloc_new w3 _)
  have xg : w5.heap[X + 1 + 1 + 1 + 1]? = some (.cells #[.func (.func 44) #[] #[.pointer (some ⟨X, 0, none⟩), .pointer (some ⟨X + 1, 0, none⟩), .pointer (some ⟨X + 1 + 1 + 1, 0, none⟩), .pointer (some ⟨X + 1 + 1 + 1 + 1, 0, none⟩)]] 64 (0, 0)) := by rw [← hw5, ← s4]; exact heap_alloc_new w4 _
  have lk := blk_lt h0.sc.k
  have lr := h0.sc.recs.lt
  have lf := h0.sc.funs.lt
  have ls := h0.sc.shs.lt
  have l1 := blk_lt h0.k
  have l2 := blk_lt h0.d
  have l3 := blk_lt h0.t
  have hBl := h0.sc.le
  have C := Lib.hid (back1_any B Kb Rb Fb Sb Ke Db Tb X (X + 1) (X + 1 + 1 + 1) (X + 1 + 1 + 1 + 1) (X + 1 + 1) p KN s i hlen hN ⟨⟨by omega, by omega, by omega, by omega⟩, ⟨by omega, by omega, by omega⟩, by omega⟩ _ i met0 0 w5 (Nat.le_refl _) hi (h0.below b05) ⟨xk, xi, xc, xg, by omega, by omega, by omega, by omega⟩ xm (fun _ => Nat.le_refl _) (by have := zc_top met0 p.fs.length; omega))
  have HB5 : Hid (∀ W, Kq (X + 1 + 1) w5 W → Below w.heap.size w W) := Lib.hid fun W hk => b05.trans (hk.below b05.size (fun k e => by rw [e]; omega))
  have g5 := cell_at xg 0
  have i5 := cell_at xi 0
  simp only [List.getElem?_toArray, List.getElem?_cons_zero] at g5 i5
  have HN : Hid (w.heap.size = X ∧ ((((w.alloc (.cells #[.pointer (some ⟨Ke, 0, none⟩)] 58 (0, 0))).alloc (.cells #[.int .i64 (i : Int)] 3 (0, 0))).alloc (.map #[] 0)).alloc (.cells #[.map (some (X + 1 + 1))] 92 (0, 0))).alloc (.cells #[.func (.func 44) #[] #[.pointer (some ⟨X, 0, none⟩), .pointer (some ⟨X + 1, 0, none⟩), .pointer (some ⟨X + 1 + 1 + 1, 0, none⟩), .pointer (some ⟨X + 1 + 1 + 1 + 1, 0, none⟩)]] 64 (0, 0)) = w5) := Lib.hid ⟨hX, by rw [hw1, hw2, hw3, hw4, hw5]⟩
  rw [← HN.out.2, ← hX] at g5 i5
  have hmk := fun W => run_makeMap_plain (P := Tryd.prog) W 92
  clear hX hw1 hw2 hw3 hw4 hw5 hb1 hb2 hb3 hb4 hb5 s1 s2 s3 s4 b35 b25 b15 b05 xk xi xm xc xg lk lr lf ls l1 l2 l3 hBl h0 hlen hi KN
  go_enter Tryd.func25, Tryd.ntmps25
  go_wp2_with fail
  simp only [HN.out.1, HN.out.2]
  refine C.out.mono ?_
  rintro e w6 ⟨b, f', T', rfl, hb, -, -, -, -, hk6⟩
  have HF : Hid (Back p i b ∧ Below w.heap.size w w6) := Lib.hid ⟨⟨f', hb⟩, HB5.out _ hk6⟩
  clear hb hk6 C g5 i5
  go_wp2_with fail
  go_ret
  exact ⟨b, rfl, HF.out.1, by first | exact HF.out.2 | (rw [← HN.out.1]; exact HF.out.2)⟩
end Go.Proofs.YtkklogikakcanaaDoor
