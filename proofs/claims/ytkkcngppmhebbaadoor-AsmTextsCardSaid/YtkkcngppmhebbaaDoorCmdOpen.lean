/-
  An argument that is a slice of instructions, opened to its cells.
-/
import Derived.Test.YtkkcngppmhebbaaDoorIsaEncode
import Derived.Deep.Slices
import Derived.Deep.Fields
import Derived.ChangeSame
import Derived.SizedLaws
import Derived.Carry
set_option linter.unusedVariables false
set_option linter.unusedSimpArgs false
namespace Go.Proofs.YtkkcngppmhebbaaDoor
open Go.ChangeShapes Go.WideShapes Go.Deep Go.RowKit

theorem weights_all {H : Type} {P : Program} {e : TypeId} {n : Nat} : ∀ {l : List (DataW H)} {d : DataW H}, d ∈ l → n ∈ d.weights P e → n ∈ DataW.weightsAll P e l
  | x :: l, d, hd, hn => by
    simp only [DataW.weightsAll, List.mem_append]
    rcases List.mem_cons.1 hd with rfl | hd
    · exact Or.inl hn
    · exact Or.inr (weights_all hd hn)
theorem add_plain (b off n : Nat) : (⟨b, off, none⟩ : Addr).add n = ⟨b, off + n, none⟩ := by
  unfold Addr.add
  split
  · rename_i h; subst h; rfl
  · rfl

section
variable {H : Type} {enc : TypeId × Value → H} {P : Program} {w : World} {base : Nat} {spare : Nat → Bool} {held : Bool}
/-- a slice of structs of one-cell fields: each field's cell, its reading, its weights -/
theorem open_rowsW {t e : TypeId} {fs : Array Field} {fuel : Nat} {cs : List Value} {x : DataW H × List MemPlace} (ht : P.underlying t = some (.slice e)) (he : P.underlying e = some (.struct fs))
    (hone : oneCellFields P fs = true) (hC : P.cellsOf e = fs.size) (h0 : 0 < fs.size) (h : DataW.trod enc P w base spare held fuel t cs = some x) :
    ∃ (A : Option Addr) (len cap : Nat), cs = [.slice A len cap] ∧ (∀ B, (∀ m ∈ x.1.weights P t, m ≤ B) → len * P.bytesOf e ≤ B) ∧
      (0 < len → ∃ b off, A = some ⟨b, off, none⟩ ∧ b < w.heap.size ∧ ∀ i, i < len → ∀ (j : Nat) (f : Field), fs[j]? = some f →
        ∃ (v : Value) (y : DataW H × List MemPlace) (n : Nat), w.cell? ⟨b, off + (i * fs.size + j), none⟩ = some v ∧ DataW.trod enc P w base spare held n f.type [v] = some y ∧ ∀ m ∈ y.1.weights P f.type, m ∈ x.1.weights P t) := by
  rcases open_slice ht h with ⟨rfl, rfl⟩ | ⟨a, len, cap, m, n, D, Pl, rfl, hb, hl, hm, hmm, rfl, hi⟩
  · exact ⟨none, 0, 0, rfl, fun B _ => by simp, fun h => absurd h (Nat.lt_irrefl _)⟩
  · have hlm : len ≤ m := by rw [hmm]; split <;> omega
    have key : ∀ i, i < len → ∀ (j : Nat) (f : Field), fs[j]? = some f →
        ∃ (v : Value) (y : DataW H × List MemPlace) (n : Nat), w.cell? (a.add (i * fs.size + j)) = some v ∧ DataW.trod enc P w base spare held n f.type [v] = some y ∧ ∀ m' ∈ y.1.weights P f.type, m' ∈ (D i).weights P e := fun i hil j f hj => by
      obtain ⟨cs', hc, ht'⟩ := hi i (by omega)
      rw [hC] at hc
      obtain ⟨ys, n', hn', hy, hlen, hyl, hf⟩ := DataW.trod_struct he ht'
      obtain ⟨_, hcl, hat⟩ := World.cells?_some hc
      simp only [Prod.mk.injEq] at hy
      obtain ⟨ho, hk⟩ := hone_of hone j f hj
      have hjl : j < fs.size := (Array.getElem?_eq_some_iff.1 hj).1
      have hcell := hat j hjl
      have hv : cs'[j]? = some (cs'[j]'(by omega)) := List.getElem?_eq_getElem (by omega)
      have h1 := hf j f hj
      rw [ho, hk] at h1
      have hone' : (cs'.drop j).take 1 = [cs'[j]'(by omega)] := by
        rw [List.drop_eq_getElem_cons (by omega)]
        rfl
      rw [hone'] at h1
      have hys : ys[j]? = some (ys[j]'(by omega)) := List.getElem?_eq_getElem (by omega)
      refine ⟨_, _, n', ?_, h1.trans hys, fun m' hm' => ?_⟩
      · rw [← Go.Deep.add_add, hcell, hv]
      · rw [hy.1]
        simp only [DataW.weights, he]
        exact DataW.weights_mem_each (j := j) (by simp [hj]) (by rw [List.getElem?_map, hys]; rfl) m' hm'
    refine ⟨some a, len, cap, rfl, fun B hB => ?_, fun hpos => ?_⟩
    · have := hB ((len + (m - len)) * P.bytesOf e) (by simp [DataW.weights, ht])
      have h2 : len * P.bytesOf e ≤ (len + (m - len)) * P.bytesOf e := Nat.mul_le_mul_right _ (by omega)
      omega
    · obtain ⟨f0, hf0⟩ : ∃ f0, fs[0]? = some f0 := ⟨fs[0], Array.getElem?_eq_getElem h0⟩
      obtain ⟨v, y, n', hcell, -, -⟩ := key 0 hpos 0 f0 hf0
      simp only [Nat.zero_mul, Nat.zero_add] at hcell
      have hsp := World.cell?_spot hcell
      have hlt := World.block_lt_of_cell? _ _ hcell
      obtain ⟨b, off, sp⟩ := a
      simp only [Addr.add, if_pos] at hsp hlt
      subst hsp
      refine ⟨b, off, rfl, hlt, fun i hil j f hj => ?_⟩
      obtain ⟨v, y, n', h1, h2, h3⟩ := key i hil j f hj
      refine ⟨v, y, n', by rw [← add_plain]; exact h1, h2, fun m' hm' => ?_⟩
      simp only [DataW.weights, ht]
      refine List.mem_cons_of_mem _ (List.mem_append.2 (Or.inl (weights_all (d := D i) ?_ (h3 m' hm'))))
      exact List.mem_map.2 ⟨i, List.mem_range.2 hil, rfl⟩
end

theorem exists_list {α : Type} {P : Nat → α → Prop} : ∀ (n : Nat), (∀ i, i < n → ∃ a, P i a) → ∃ l : List α, l.length = n ∧ ∀ i a, l[i]? = some a → P i a
  | 0, _ => ⟨[], rfl, fun i a h => by simp at h⟩
  | n + 1, h => by
    obtain ⟨l, hl, hp⟩ := exists_list n fun i hi => h i (by omega)
    obtain ⟨a, ha⟩ := h n (by omega)
    refine ⟨l ++ [a], by simp [hl], fun i b hb => ?_⟩
    rcases Nat.lt_or_ge i l.length with h1 | h1
    · rw [List.getElem?_append_left h1] at hb; exact hp i b hb
    · rw [List.getElem?_append_right h1] at hb
      have : i - l.length = 0 := by
        have := (List.getElem?_eq_some_iff.1 hb).1
        simp at this; omega
      rw [this] at hb
      simp only [List.getElem?_cons_zero, Option.some.injEq] at hb
      subst hb
      have : i = n := by omega
      subst this; exact ha

theorem ok64_of_wf {x : Int} (h : (Lit.int .i64 x).wf = true) : -9223372036854775808 ≤ x ∧ x ≤ 9223372036854775807 := by
  have e1 : IntKind.i64.min = -9223372036854775808 := by decide
  have e2 : IntKind.i64.max = 9223372036854775807 := by decide
  simp [Lit.wf, e1, e2] at h
  exact ⟨by omega, by omega⟩
theorem oku8_of_wf {x : Int} (h : (Lit.int .u8 x).wf = true) : 0 ≤ x ∧ x ≤ 255 := by
  have e1 : IntKind.u8.min = 0 := by decide
  have e2 : IntKind.u8.max = 255 := by decide
  simp [Lit.wf, e1, e2] at h
  exact ⟨by omega, by omega⟩
theorem opFields : ∃ fs : Array Field, Tryd.prog.underlying 37 = some (.struct fs) ∧ oneCellFields Tryd.prog fs = true ∧ Tryd.prog.cellsOf 37 = fs.size ∧ fs.size = 6 ∧
    ∃ f0 f1 f2 f3 f4 f5, fs[0]? = some f0 ∧ fs[1]? = some f1 ∧ fs[2]? = some f2 ∧ fs[3]? = some f3 ∧ fs[4]? = some f4 ∧ fs[5]? = some f5 ∧ Tryd.prog.underlying f0.type = some (.int .u8) ∧ Tryd.prog.underlying f1.type = some (.int .u8) ∧ Tryd.prog.underlying f2.type = some (.int .u8) ∧
      Tryd.prog.underlying f3.type = some (.int .u8) ∧ Tryd.prog.underlying f4.type = some (.int .u8) ∧ Tryd.prog.underlying f5.type = some (.int .i64) := by
  exact ⟨_, Tryd.underlying37, by kernel_rfl, by kernel_rfl, rfl, _, _, _, _, _, _, rfl, rfl, rfl, rfl, rfl, rfl, by kernel_rfl, by kernel_rfl, by kernel_rfl, by kernel_rfl, by kernel_rfl, by kernel_rfl⟩
theorem bytesOp : Tryd.prog.bytesOf 37 = 16 := by kernel_rfl
section
variable {H : Type} {enc : TypeId × Value → H} {w : World} {base : Nat} {spare : Nat → Bool} {held : Bool}
theorem trod_i64 {t : TypeId} {v : Value} {n : Nat} {y : DataW H × List MemPlace} (ht : Tryd.prog.underlying t = some (.int .i64)) (h : DataW.trod enc Tryd.prog w base spare held n t [v] = some y) : ∃ a, v = .int .i64 a ∧ -9223372036854775808 ≤ a ∧ a ≤ 9223372036854775807 := by
  obtain ⟨a, h1, -, h2⟩ := DataW.trod_int ht h
  exact ⟨a, by simpa using h1, ok64_of_wf h2⟩
theorem trod_u8 {t : TypeId} {v : Value} {n : Nat} {y : DataW H × List MemPlace} (ht : Tryd.prog.underlying t = some (.int .u8)) (h : DataW.trod enc Tryd.prog w base spare held n t [v] = some y) : ∃ a, v = .int .u8 a ∧ 0 ≤ a ∧ a ≤ 255 := by
  obtain ⟨a, h1, -, h2⟩ := DataW.trod_int ht h
  exact ⟨a, by simpa using h1, (oku8_of_wf h2).1, (oku8_of_wf h2).2⟩
theorem open_cmds {t : TypeId} {v : Value} {n : Nat} {x : DataW H × List MemPlace} (ht : Tryd.prog.underlying t = some (.slice 37)) (h : DataW.trod enc Tryd.prog w base spare held n t [v] = some x) (hw : ∀ m ∈ x.1.weights Tryd.prog t, m ≤ reachBytes) :
    ∃ A c l, v = .slice A l.length c ∧ CmdsAt w w.heap.size A l ∧ (∀ e ∈ l, e.Wf) ∧ l.length ≤ 35184372088832 := by
  obtain ⟨fs, he, hone, hC, h6, f0, f1, f2, f3, f4, f5, g0, g1, g2, g3, g4, g5, u0, u1, u2, u3, u4, u5⟩ := opFields
  obtain ⟨A, len, cap, hv, hB, hr⟩ := open_rowsW ht he hone hC (by omega) h
  have hlen : len ≤ 35184372088832 := by
    have h1 := hB _ hw
    have h2 := reachBytes_lt
    have h5 : (2 : Nat) ^ 47 = 140737488355328 := by decide
    rw [bytesOp] at h1
    omega
  obtain ⟨l, hl, hp⟩ := exists_list (P := fun i (e : Cmd) => e.Wf ∧ ∃ b off, A = some ⟨b, off, none⟩ ∧ b < w.heap.size ∧ CmdAt w b (off + i * 6) e) len fun i hi => by
    obtain ⟨b, off, hA, hb, hf⟩ := hr (by omega)
    obtain ⟨v0, y0, n0, c0, t0, -⟩ := hf i hi 0 f0 g0
    obtain ⟨v1, y1, n1, c1, t1, -⟩ := hf i hi 1 f1 g1
    obtain ⟨v2, y2, n2, c2, t2, -⟩ := hf i hi 2 f2 g2
    obtain ⟨v3, y3, n3, c3, t3, -⟩ := hf i hi 3 f3 g3
    obtain ⟨v4, y4, n4, c4, t4, -⟩ := hf i hi 4 f4 g4
    obtain ⟨v5, y5, n5, c5, t5, -⟩ := hf i hi 5 f5 g5
    obtain ⟨a0, rfl, k0⟩ := trod_u8 u0 t0
    obtain ⟨a1, rfl, k1⟩ := trod_u8 u1 t1
    obtain ⟨a2, rfl, k2⟩ := trod_u8 u2 t2
    obtain ⟨a3, rfl, k3⟩ := trod_u8 u3 t3
    obtain ⟨a4, rfl, k4⟩ := trod_u8 u4 t4
    obtain ⟨a5, rfl, k5⟩ := trod_i64 u5 t5
    rw [h6] at c0 c1 c2 c3 c4 c5
    exact ⟨⟨a0, a1, a2, a3, a4, a5⟩, ⟨k0, k1, k2, k3, k4, k5⟩, b, off, hA, hb, c0, by rw [Nat.add_assoc]; exact c1, by rw [Nat.add_assoc]; exact c2, by rw [Nat.add_assoc]; exact c3, by rw [Nat.add_assoc]; exact c4, by rw [Nat.add_assoc]; exact c5⟩
  subst hl
  refine ⟨A, cap, l, by simpa using hv, fun hne => ?_, fun e he => ?_, hlen⟩
  · have h0 : 0 < l.length := List.length_pos_iff.2 hne
    obtain ⟨-, b, off, hA, hb, -⟩ := hp 0 l[0] (List.getElem?_eq_getElem h0)
    refine ⟨b, off, hA, hb, fun k x hk => ?_⟩
    obtain ⟨-, b', off', hA', -, hc⟩ := hp k x hk
    rw [hA] at hA'
    injection hA' with hA'
    injection hA' with h1 h2 _
    subst h1
    subst h2
    exact hc
  · obtain ⟨i, hi, rfl⟩ := List.getElem_of_mem he
    exact (hp i l[i] (List.getElem?_eq_getElem hi)).1
end
end Go.Proofs.YtkkcngppmhebbaaDoor
