/-
  asm.Parse, plain: how long lines, words and what is read may be.
-/
import Derived.Test.YtkkcngppmhebbaaGreatDoorAsmFields
import Derived.Test.YtkkcngppmhebbaaGreatDoorAsmRd
set_option linter.unusedVariables false
set_option linter.unusedSimpArgs false
namespace Go.Proofs.YtkkcngppmhebbaaGreatDoor
open Go.RowKit

theorem linesGo_mem : ∀ (l cur : List UInt8), ∀ x ∈ linesGo cur l, x.length ≤ cur.length + l.length
  | [], cur, x, hx => by
    rw [linesGo, List.mem_singleton] at hx
    subst hx; simp
  | b :: l, cur, x, hx => by
    rw [linesGo] at hx
    split at hx
    · rcases List.mem_cons.1 hx with rfl | hx
      · omega
      · have := linesGo_mem l [] x hx
        simp only [List.length_cons, List.length_nil] at this ⊢; omega
    · have := linesGo_mem l (cur ++ [b]) x hx
      simp only [List.length_cons, List.length_append, List.length_nil] at this ⊢; omega
theorem linesGo_count : ∀ (l cur : List UInt8), (linesGo cur l).length ≤ l.length + 1
  | [], cur => by simp [linesGo]
  | b :: l, cur => by
    rw [linesGo]
    split
    · have := linesGo_count l []
      simp only [List.length_cons]; omega
    · have := linesGo_count l (cur ++ [b])
      simp only [List.length_cons]; omega
theorem flushV_mem {cur x : List UInt8} (h : x ∈ flushV cur) : x = cur := by
  unfold flushV at h
  split at h
  · cases h
  · simpa using h
theorem flushV_len (cur : List UInt8) : (flushV cur).length ≤ cur.length := by
  unfold flushV
  cases cur <;> simp
theorem fieldsGo_mem : ∀ (l cur : List UInt8), ∀ x ∈ fieldsGo cur l, x.length ≤ cur.length + l.length
  | [], cur, x, hx => by
    rw [fieldsGo] at hx
    rw [flushV_mem hx]; simp
  | b :: l, cur, x, hx => by
    rw [fieldsGo] at hx
    split at hx
    · rcases List.mem_append.1 hx with hx | hx
      · rw [flushV_mem hx]; omega
      · have := fieldsGo_mem l [] x hx
        simp only [List.length_cons, List.length_nil] at this ⊢; omega
    · have := fieldsGo_mem l (cur ++ [b]) x hx
      simp only [List.length_cons, List.length_append, List.length_nil] at this ⊢; omega
theorem fieldsGo_count : ∀ (l cur : List UInt8), (fieldsGo cur l).length ≤ cur.length + l.length
  | [], cur => by rw [fieldsGo]; have := flushV_len cur; simp; omega
  | b :: l, cur => by
    rw [fieldsGo]
    split
    · have := fieldsGo_count l []
      have h2 := flushV_len cur
      simp only [List.length_cons, List.length_append, List.length_nil] at this ⊢; omega
    · have := fieldsGo_count l (cur ++ [b])
      simp only [List.length_cons, List.length_append, List.length_nil] at this ⊢; omega
theorem tw_len (l : List UInt8) : (l.takeWhile (· != 35)).length ≤ l.length := (List.takeWhile_sublist _).length_le
theorem wordsV_fields (l : List UInt8) : wordsV l = fieldsGo [] (l.takeWhile (· != 35)) := words_fields l []
theorem numV_len {f : Form} {w : List UInt8} {n : Int} {g : List (List UInt8)} (h : numV f w = some (n, g)) : g.length ≤ 1 := by
  unfold numV at h
  split at h
  · split at h
    · injection h with h; injection h with _ h; subst h; simp
    · split at h
      · injection h with h; injection h with _ h; subst h; simp
      · cases h
  · injection h with h; injection h with _ h; subst h; simp
theorem cmdV_some {w0 : List UInt8} {rest : List (List UInt8)} {o : Cmd} {g : List (List UInt8)} (h : cmdV w0 rest = some (o, g)) :
    ∃ f a b d n c, formV (kindOf w0) = some f ∧ c = (if f.cal = true then calcOf (rest.getD 0 []) else 0) ∧
      (if 0 < f.regs then regOf (rest.getD (f.cal.toNat + 0) []) else some 0) = some a ∧ (if 1 < f.regs then regOf (rest.getD (f.cal.toNat + 1) []) else some 0) = some b ∧
      (if 2 < f.regs then regOf (rest.getD (f.cal.toNat + 2) []) else some 0) = some d ∧ numV f (rest.getD (f.cal.toNat + f.regs) []) = some (n, g) ∧
      okV ⟨kindOf w0, c, a, b, d, n⟩ = true ∧ o = ⟨kindOf w0, c, a, b, d, n⟩ := by
  unfold cmdV at h
  split at h
  · cases h
  · next f hf =>
    by_cases hl : rest.length = f.cal.toNat + f.regs + f.num.toNat
    · rw [if_pos hl] at h
      dsimp only at h
      obtain ⟨c, hc⟩ : ∃ c, (if f.cal = true then calcOf (rest.getD 0 []) else 0) = c := ⟨_, rfl⟩
      obtain ⟨ra, hra⟩ : ∃ c, (if 0 < f.regs then regOf (rest.getD (f.cal.toNat + 0) []) else some 0) = c := ⟨_, rfl⟩
      obtain ⟨rb, hrb⟩ : ∃ c, (if 1 < f.regs then regOf (rest.getD (f.cal.toNat + 1) []) else some 0) = c := ⟨_, rfl⟩
      obtain ⟨rd, hrd⟩ : ∃ c, (if 2 < f.regs then regOf (rest.getD (f.cal.toNat + 2) []) else some 0) = c := ⟨_, rfl⟩
      obtain ⟨rn, hrn⟩ : ∃ c, numV f (rest.getD (f.cal.toNat + f.regs) []) = c := ⟨_, rfl⟩
      rw [hc, hra, hrb, hrd, hrn] at h
      cases ra with
      | none => cases h
      | some a =>
        cases rb with
        | none => cases h
        | some b =>
          cases rd with
          | none => cases h
          | some d =>
            cases rn with
            | none => cases h
            | some p =>
              obtain ⟨n, g'⟩ := p
              dsimp only at h
              by_cases hok : okV ⟨kindOf w0, c, a, b, d, n⟩ = true
              · rw [if_pos hok] at h
                injection h with h
                injection h with h1 h2
                subst h2
                exact ⟨f, a, b, d, n, c, hf, hc.symm, hra, hrb, hrd, hrn, hok, h1.symm⟩
              · rw [if_neg hok] at h
                cases h
    · rw [if_neg hl] at h; cases h
theorem cmdV_len {w0 : List UInt8} {rest : List (List UInt8)} {o : Cmd} {g : List (List UInt8)} (h : cmdV w0 rest = some (o, g)) : g.length ≤ 1 := by
  obtain ⟨f, a, b, d, n, c, hf, hc, ha, hb, hd, hn, hok, rfl⟩ := cmdV_some h
  exact numV_len hn
/-- so much has been read at most behind i lines -/
structure Few (r : Rd) (i : Nat) : Prop where
  ops : r.ops.length ≤ i
  goals : r.goals.length ≤ i
  labels : r.labels.length ≤ i
  places : ∀ x ∈ r.labels, x.2 ≤ i
theorem Few.ins {r r' : Rd} {i line : Nat} {w0 : List UInt8} {rest : List (List UInt8)} (h : Few r i) (e : insV r w0 rest line = some r') : Few r' (i + 1) := by
  unfold insV at e
  split at e
  · cases e
  · next o g hc =>
    injection e with e
    subst e
    have := cmdV_len hc
    obtain ⟨h1, h2, h3, h4⟩ := h
    exact ⟨by simp only [List.length_append, List.length_singleton]; omega, by simp only [List.length_append, List.length_map]; omega, by dsimp only; omega, fun x hx => by have := h4 x hx; omega⟩
theorem Few.more {r : Rd} {i : Nat} (h : Few r i) : Few r (i + 1) := by
  obtain ⟨h1, h2, h3, h4⟩ := h
  exact ⟨by omega, by omega, by omega, fun x hx => by have := h4 x hx; omega⟩
theorem Few.label {r : Rd} {i : Nat} (h : Few r i) (w : List UInt8) : Few { r with labels := r.labels ++ [(w, r.ops.length)] } (i + 1) := by
  obtain ⟨h1, h2, h3, h4⟩ := h
  refine ⟨by dsimp only; omega, by dsimp only; omega, by simp only [List.length_append, List.length_singleton]; omega, fun x hx => ?_⟩
  rcases List.mem_append.1 hx with hx | hx
  · have := h4 x hx; omega
  · rw [List.mem_singleton] at hx; subst hx; dsimp only; omega
theorem runV_cons (r : Rd) (i : Nat) (l : List UInt8) (ls : List (List UInt8)) : runV r i (l :: ls) = match lineV r i (wordsV l) with
    | .inl r' => runV r' (i + 1) ls
    | .inr e => .inr (i, e) := by rw [runV]; rfl
theorem lookV_snoc (x w : List UInt8) (p : Nat) : ∀ labels : List (List UInt8 × Nat), lookV w labels = none → lookV x (labels ++ [(w, p)]) = if x = w then some p else lookV x labels
  | [], _ => by
    simp only [List.nil_append, lookV]
    by_cases h : x = w
    · rw [if_pos h, if_pos h.symm]
    · rw [if_neg h, if_neg (Ne.symm h)]
  | y :: l, hn => by
    rw [lookV] at hn
    split at hn
    · cases hn
    · next hy =>
      rw [List.cons_append, lookV, lookV, lookV_snoc x w p l hn]
      by_cases hx : y.1 = x
      · rw [if_pos hx, if_pos hx, if_neg (fun e => hy (hx.trans e))]
      · rw [if_neg hx, if_neg hx]
theorem lookV_le {labels : List (List UInt8 × Nat)} {w : List UInt8} {p n : Nat} (h : lookV w labels = some p) (hl : ∀ x ∈ labels, x.2 ≤ n) : p ≤ n := by
  induction labels with
  | nil => cases h
  | cons y l ih =>
    rw [lookV] at h
    split at h
    · injection h with h; rw [← h]; exact hl y (by simp)
    · exact ih h fun x hx => hl x (by simp [hx])
theorem cmdV_goal {w0 : List UInt8} {rest : List (List UInt8)} {o : Cmd} {g : List (List UInt8)} (h : cmdV w0 rest = some (o, g)) : ∀ y ∈ g, y ∈ rest ∨ y = [] := by
  obtain ⟨f, a, b, d, n, c, hf, hc, ha, hb, hd, hn, hok, rfl⟩ := cmdV_some h
  intro y hy
  unfold numV at hn
  split at hn
  · split at hn
    · injection hn with hn; injection hn with _ hn; subst hn; cases hy
    · split at hn
      · injection hn with hn; injection hn with _ hn; subst hn
        rw [List.mem_singleton] at hy
        subst hy
        rw [List.getD_eq_getElem?_getD]
        cases he : rest[f.cal.toNat + f.regs]? with
        | none => exact .inr rfl
        | some z => exact .inl (List.mem_of_getElem? he)
      · cases hn
  · injection hn with hn; injection hn with _ hn; subst hn; cases hy
/-- a jump's instruction lies among the instructions -/
def GoalsIn (r : Rd) : Prop := ∀ g ∈ r.goals, g.1 < r.ops.length ∧ g.2.1 ≤ 100000 ∧ g.2.2.length ≤ 65536
theorem GoalsIn.ins {r r' : Rd} {line : Nat} {w0 : List UInt8} {rest : List (List UInt8)} (h : GoalsIn r) (hln : line ≤ 100000) (hws : ∀ x ∈ w0 :: rest, x.length ≤ 65536) (e : insV r w0 rest line = some r') : GoalsIn r' := by
  unfold insV at e
  split at e
  · cases e
  · next o g hc =>
    injection e with e
    subst e
    intro x hx
    simp only [List.length_append, List.length_singleton]
    rcases List.mem_append.1 hx with hx | hx
    · have := h x hx; omega
    · obtain ⟨y, hy, rfl⟩ := List.mem_map.1 hx
      have hm := cmdV_goal hc y hy
      refine ⟨by dsimp only; omega, hln, ?_⟩
      rcases hm with hm | hm
      · exact hws y (List.mem_cons_of_mem _ hm)
      · rw [hm]; simp
end Go.Proofs.YtkkcngppmhebbaaGreatDoor
