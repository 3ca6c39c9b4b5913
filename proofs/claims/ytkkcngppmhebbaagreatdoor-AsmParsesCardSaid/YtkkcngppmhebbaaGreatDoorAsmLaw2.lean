/-
  The plain laws of layer 18: what is read may be. No program in sight.
-/
import Derived.Test.YtkkcngppmhebbaaGreatDoorAsmLaw
import Derived.Test.YtkkcngppmhebbaaGreatDoorAsmParseP
set_option linter.unusedVariables false
set_option linter.unusedSimpArgs false
namespace Go.Proofs.YtkkcngppmhebbaaGreatDoor
open Go.RowKit

/-! ### what is read may be -/
/-- what has been read so far: instructions that may be, labels that lie among them, jumps -/
structure RdOk (r : Rd) : Prop where
  ops : ∀ o ∈ r.ops, okV o = true ∧ o.Wf
  labels : ∀ x ∈ r.labels, x.2 ≤ r.ops.length
  goals : ∀ g ∈ r.goals, ∃ o, r.ops[g.1]? = some o ∧ (o.k = 6 ∨ o.k = 7)
theorem regOf_range {w : List UInt8} {v : Int} (h : regOf w = some v) : 0 ≤ v ∧ v ≤ 7 := by
  unfold regOf at h
  split at h
  · split at h
    · injection h with h
      omega
    · cases h
  · cases h
theorem kindOf_range (w : List UInt8) : 0 ≤ kindOf w ∧ kindOf w ≤ 15 := by
  rcases kindOf_cases w with h | ⟨i, hi, h⟩ <;> omega
theorem calcOf_range (w : List UInt8) : 0 ≤ calcOf w ∧ calcOf w ≤ 14 := by
  rcases calcOf_cases w with h | ⟨i, hi, h⟩ <;> omega
theorem parseV_range (w : List UInt8) : -9223372036854775808 ≤ (parseV ⟨w.toArray⟩).1 ∧ (parseV ⟨w.toArray⟩).1 ≤ 9223372036854775807 := by
  by_cases h : ∃ v, -9223372036854775808 ≤ v ∧ v ≤ 9223372036854775807 ∧ w = Lib.itoa v
  · obtain ⟨v, h1, h2, h3⟩ := h
    rw [parseV_of h1 h2 h3]
    exact ⟨h1, h2⟩
  · rw [parseV_no (fun v h1 h2 h3 => h ⟨v, h1, h2, h3⟩)]
    decide
theorem cmdV_ok {w0 : List UInt8} {rest : List (List UInt8)} {o : Cmd} {g : List (List UInt8)} (h : cmdV w0 rest = some (o, g)) :
    okV o = true ∧ o.Wf ∧ (g ≠ [] → (o.k = 6 ∨ o.k = 7)) := by
  obtain ⟨f, a, b, d, n, c, hf, hcal, ha, hb, hd, hn, hok, rfl⟩ := cmdV_some h
  refine ⟨hok, ?_, ?_⟩
  · have hr : ∀ (i : Nat) (x : Int), (if i < f.regs then regOf (rest.getD (f.cal.toNat + i) []) else some 0) = some x → 0 ≤ x ∧ x ≤ 7 := fun i x hx => by
      split at hx
      · exact regOf_range hx
      · injection hx with hx; omega
    have h0 := hr 0 a ha
    have h1 := hr 1 b hb
    have h2 := hr 2 d hd
    have hk := kindOf_range w0
    have hc : 0 ≤ c ∧ c ≤ 14 := by
      rw [hcal]
      split
      · exact calcOf_range _
      · omega
    have hnn : -9223372036854775808 ≤ n ∧ n ≤ 9223372036854775807 := by
      unfold numV at hn
      split at hn
      · split at hn
        · injection hn with hn; injection hn with e _; rw [← e]; exact parseV_range _
        · split at hn
          · injection hn with hn; injection hn with e _; omega
          · cases hn
      · injection hn with hn; injection hn with e _; omega
    exact ⟨by dsimp only; omega, by dsimp only; omega, by dsimp only; omega, by dsimp only; omega, by dsimp only; omega, hnn⟩
  · intro hg
    unfold numV at hn
    split at hn
    · split at hn
      · injection hn with hn; injection hn with _ e; exact absurd e.symm hg
      · split at hn
        · next hj =>
          have hj : f.jump = true := by
            cases hfj : f.jump with
            | true => rfl
            | false => rw [hfj] at hj; simp at hj
          dsimp only
          rcases formV_cases (kindOf w0) with hk | ⟨hk, -⟩
          · rcases hk with hk | hk | hk | hk | hk | hk | hk | hk | hk | hk | hk | hk | hk | hk | hk <;> rw [hk] at hf ⊢ <;>
              first
                | exact .inl rfl
                | exact .inr rfl
                | (injection hf with hf; subst hf; cases hj)
          · rw [hk] at hf; cases hf
        · cases hn
    · injection hn with hn; injection hn with _ e; exact absurd e.symm hg
theorem RdOk.ins {r r' : Rd} {w0 : List UInt8} {rest : List (List UInt8)} {line : Nat} (hr : RdOk r) (h : insV r w0 rest line = some r') : RdOk r' ∧ r'.ops.length = r.ops.length + 1 := by
  unfold insV at h
  split at h
  · cases h
  · next o g hc =>
    injection h with h
    subst h
    obtain ⟨h1, h2, h3⟩ := cmdV_ok hc
    refine ⟨⟨fun x hx => ?_, fun x hx => ?_, fun x hx => ?_⟩, by simp⟩
    · rcases List.mem_append.1 hx with hx | hx
      · exact hr.ops x hx
      · rw [List.mem_singleton] at hx; subst hx; exact ⟨h1, h2⟩
    · have := hr.labels x hx
      simp only [List.length_append, List.length_singleton]; omega
    · rcases List.mem_append.1 hx with hx | hx
      · obtain ⟨o', ho, hk⟩ := hr.goals x hx
        exact ⟨o', by rw [List.getElem?_append_left (List.getElem?_eq_some_iff.1 ho).1]; exact ho, hk⟩
      · obtain ⟨w, hw, rfl⟩ := List.mem_map.1 hx
        exact ⟨o, by simp, h3 (fun e => by rw [e] at hw; cases hw)⟩
theorem RdOk.line {r r' : Rd} {line : Nat} {ws : List (List UInt8)} (hr : RdOk r) (h : lineV r line ws = .inl r') : RdOk r' ∧ r'.ops.length ≤ r.ops.length + 1 := by
  unfold lineV at h
  split at h
  · injection h with h; subst h; exact ⟨hr, by omega⟩
  · next w0 rest =>
    split at h
    · split at h
      · split at h
        · cases h
        · injection h with h
          subst h
          refine ⟨⟨hr.ops, fun x hx => ?_, hr.goals⟩, by simp⟩
          rcases List.mem_append.1 hx with hx | hx
          · exact hr.labels x hx
          · rw [List.mem_singleton] at hx; subst hx; exact Nat.le_refl _
      · cases h
    · split at h
      · next r2 hi =>
        injection h with h
        subst h
        obtain ⟨h1, h2⟩ := hr.ins hi
        exact ⟨h1, by omega⟩
      · cases h
theorem RdOk.run : ∀ {ls : List (List UInt8)} {r r' : Rd} {line : Nat}, RdOk r → runV r line ls = .inl r' → RdOk r' ∧ r'.ops.length ≤ r.ops.length + ls.length
  | [], r, r', line, hr, h => by rw [runV] at h; injection h with h; subst h; exact ⟨hr, by simp⟩
  | l :: ls, r, r', line, hr, h => by
    rw [runV] at h
    split at h
    · next r2 hl =>
      obtain ⟨h1, h2⟩ := hr.line hl
      obtain ⟨h3, h4⟩ := RdOk.run h1 h
      exact ⟨h3, by simp only [List.length_cons]; omega⟩
    · cases h
theorem linesGo_len : ∀ (l cur : List UInt8), (linesGo cur l).length ≤ l.length + 1
  | [], cur => by simp [linesGo]
  | b :: l, cur => by
    rw [linesGo]
    split
    · have := linesGo_len l []
      simp only [List.length_cons]; omega
    · have := linesGo_len l (cur ++ [b])
      simp only [List.length_cons]; omega
theorem lookV_mem : ∀ {labels : List (List UInt8 × Nat)} {w : List UInt8} {p : Nat}, lookV w labels = some p → ∃ x ∈ labels, x.2 = p
  | [], w, p, h => by rw [lookV] at h; cases h
  | x :: l, w, p, h => by
    rw [lookV] at h
    split at h
    · injection h with h; exact ⟨x, by simp, h⟩
    · obtain ⟨y, hy, e⟩ := lookV_mem h
      exact ⟨y, by simp [hy], e⟩
theorem setN_ok {l : List Cmd} {i : Nat} {o : Cmd} {p : Nat} (ho : l[i]? = some o) (hk : o.k = 6 ∨ o.k = 7) (hp : p ≤ 262144) (h : ∀ o ∈ l, okV o = true ∧ o.Wf) : ∀ o ∈ setN l i p, okV o = true ∧ o.Wf := by
  intro x hx
  unfold setN at hx
  rw [ho] at hx
  dsimp only at hx
  rcases List.mem_or_eq_of_mem_set hx with hx | rfl
  · exact h x hx
  · obtain ⟨h1, h2⟩ := h o (List.mem_of_getElem? ho)
    refine ⟨?_, ⟨h2.k, h2.c, h2.a, h2.b, h2.d, by dsimp only; omega⟩⟩
    obtain ⟨ok, oc, oa, ob, od, on⟩ := o
    dsimp only at hk
    unfold okV at h1 ⊢
    have hp' : (p : Int) ≤ 262144 := by omega
    rcases hk with rfl | rfl
    all_goals
      simp only [formV, Int.reduceEq, if_true, if_false] at h1 ⊢
      simp only [Bool.and_eq_true, decide_eq_true_eq] at h1 ⊢
      exact ⟨h1.1, by omega, hp'⟩
theorem setN_len (l : List Cmd) (i : Nat) (n : Int) : (setN l i n).length = l.length := by unfold setN; split <;> simp
theorem setN_kinds {l : List Cmd} {i : Nat} {n : Int} {j : Nat} {o : Cmd} (h : l[j]? = some o) : ∃ o', (setN l i n)[j]? = some o' ∧ o'.k = o.k := by
  unfold setN
  split
  · next o2 h2 =>
    by_cases e : i = j
    · subst e
      rw [h] at h2
      injection h2 with h2
      subst h2
      exact ⟨{ o with n := n }, by rw [List.getElem?_set_self (List.getElem?_eq_some_iff.1 h).1], rfl⟩
    · exact ⟨o, by rw [List.getElem?_set_ne e]; exact h, rfl⟩
  · exact ⟨o, h, rfl⟩
theorem goals_ok {labels : List (List UInt8 × Nat)} (hl : ∀ x ∈ labels, x.2 ≤ 262144) : ∀ {gs : List (Nat × Nat × List UInt8)} {ops l : List Cmd}, (∀ o ∈ ops, okV o = true ∧ o.Wf) → (∀ g ∈ gs, ∃ o, ops[g.1]? = some o ∧ (o.k = 6 ∨ o.k = 7)) →
    goalsV labels ops gs = .inl l → (∀ o ∈ l, okV o = true ∧ o.Wf) ∧ l.length = ops.length
  | [], ops, l, h, _, e => by rw [goalsV] at e; injection e with e; subst e; exact ⟨h, rfl⟩
  | (i, line, w) :: gs, ops, l, h, hg, e => by
    rw [goalsV] at e
    split at e
    · next p hp =>
      obtain ⟨o, ho, hk⟩ := hg (i, line, w) (by simp)
      obtain ⟨x, hx, hxp⟩ := lookV_mem hp
      have hp2 : p ≤ 262144 := by rw [← hxp]; exact hl x hx
      obtain ⟨h1, h2⟩ := goals_ok hl (setN_ok ho hk hp2 h) (fun g hgm => by
        obtain ⟨o1, ho1, hk1⟩ := hg g (List.mem_cons_of_mem _ hgm)
        obtain ⟨o2, ho2, hk2⟩ := setN_kinds (i := i) (n := p) ho1
        exact ⟨o2, ho2, by rw [hk2]; exact hk1⟩) e
      exact ⟨h1, by rw [h2, setN_len]⟩
    · cases e
/-- WHAT IS READ MAY BE -/
theorem parse_ok {s : List UInt8} {l : List Cmd} (h : parseA s = .inl l) : (∀ o ∈ l, okV o = true ∧ o.Wf) ∧ l.length ≤ 65537 := by
  unfold parseA at h
  split at h
  · cases h
  · next hs =>
    split at h
    · cases h
    · next r hr =>
      obtain ⟨h1, h2⟩ := RdOk.run (r := ⟨[], [], []⟩) ⟨by simp, by simp, by simp⟩ hr
      have hln := linesGo_len s []
      unfold linesV at h2
      simp only [List.length_nil, Nat.zero_add] at h2
      split at h
      · next l' hg =>
        injection h with h
        subst h
        obtain ⟨h3, h4⟩ := goals_ok (fun x hx => by have := h1.labels x hx; omega) h1.ops h1.goals hg
        exact ⟨h3, by omega⟩
      · cases h
theorem run_bad : ∀ {ls : List (List UInt8)} {r : Rd} {line n : Nat} {e : Int}, runV r line ls = .inr (n, e) → n < line + ls.length ∧ (e = 8 ∨ e = 13)
  | [], r, line, n, e, h => by rw [runV] at h; cases h
  | l :: ls, r, line, n, e, h => by
    rw [runV_cons] at h
    cases hl : lineV r line (wordsV l) with
    | inl r' =>
      rw [hl] at h
      have := run_bad h
      simp only [List.length_cons]
      omega
    | inr e' =>
      rw [hl] at h
      injection h with h
      injection h with h1 h2
      subst h1
      subst h2
      refine ⟨by simp only [List.length_cons]; omega, ?_⟩
      unfold lineV at hl
      split at hl
      · cases hl
      · split at hl
        · split at hl
          · split at hl
            · injection hl with hl; exact .inl hl.symm
            · cases hl
          · injection hl with hl; exact .inr hl.symm
        · split at hl
          · cases hl
          · injection hl with hl; exact .inr hl.symm
theorem goals_bad {labels : List (List UInt8 × Nat)} : ∀ {gs : List (Nat × Nat × List UInt8)} {ops : List Cmd} {n : Nat}, goalsV labels ops gs = .inr n → ∃ g ∈ gs, g.2.1 = n
  | [], ops, n, h => by rw [goalsV] at h; cases h
  | (i, line, w) :: gs, ops, n, h => by
    rw [goalsV] at h
    split at h
    · obtain ⟨g, hg, e⟩ := goals_bad h
      exact ⟨g, List.mem_cons_of_mem _ hg, e⟩
    · injection h with h
      exact ⟨(i, line, w), by simp, h⟩
/-- jumps' lines are lines that were read -/
theorem run_lines : ∀ {ls : List (List UInt8)} {r r' : Rd} {line : Nat}, runV r line ls = .inl r' → (∀ g ∈ r.goals, g.2.1 < line) → ∀ g ∈ r'.goals, g.2.1 < line + ls.length
  | [], r, r', line, h, hg => by rw [runV] at h; injection h with h; subst h; simpa using hg
  | l :: ls, r, r', line, h, hg => by
    rw [runV_cons] at h
    cases hl : lineV r line (wordsV l) with
    | inr e => rw [hl] at h; cases h
    | inl r2 =>
      rw [hl] at h
      have h2 : ∀ g ∈ r2.goals, g.2.1 < line + 1 := by
        unfold lineV at hl
        split at hl
        · injection hl with hl; subst hl; intro g hgm; have := hg g hgm; omega
        · split at hl
          · split at hl
            · split at hl
              · cases hl
              · injection hl with hl; subst hl; intro g hgm; have := hg g hgm; omega
            · cases hl
          · split at hl
            · next r3 hi =>
              injection hl with hl
              subst hl
              unfold insV at hi
              split at hi
              · cases hi
              · injection hi with hi
                subst hi
                intro g hgm
                rcases List.mem_append.1 hgm with hgm | hgm
                · have := hg g hgm; omega
                · obtain ⟨y, -, rfl⟩ := List.mem_map.1 hgm
                  dsimp only; omega
            · cases hl
      have := run_lines h h2
      intro g hgm
      have := this g hgm
      simp only [List.length_cons]
      omega
/-- which line is wrong, and how -/
theorem parse_bad {s : List UInt8} {n : Nat} {e : Int} (hs : s.length ≤ 6000) (h : parseA s = .inr (n, e)) : n ≤ 70000 ∧ e ≠ 0 := by
  have hln := linesGo_len s []
  unfold parseA at h
  split at h
  · omega
  · split at h
    · next p hr =>
      injection h with h
      subst h
      obtain ⟨h1, h2⟩ := run_bad hr
      unfold linesV at h1
      exact ⟨by omega, by omega⟩
    · next r hr =>
      split at h
      · cases h
      · next line hg =>
        injection h with h
        injection h with h1 h2
        subst h1
        subst h2
        obtain ⟨g, hgm, e⟩ := goals_bad hg
        have := run_lines hr (by simp) g hgm
        unfold linesV at this
        exact ⟨by omega, by decide⟩
theorem all_ok {l : List Cmd} (h : ∀ o ∈ l, okV o = true ∧ o.Wf) : l.all okV = true := List.all_eq_true.2 fun o ho => (h o ho).1
/-- the text of what may be: one, or too long -/
theorem text_of_ok {l : List Cmd} (h : ∀ o ∈ l, okV o = true ∧ o.Wf) (hl : l.length ≤ 65537) : (textA l).2 = 0 ∨ textA l = ([], 3) := by
  unfold textA
  rw [if_neg (by omega), if_pos (all_ok h)]
  split
  · exact .inl rfl
  · exact .inr rfl
end Go.Proofs.YtkkcngppmhebbaaGreatDoor
