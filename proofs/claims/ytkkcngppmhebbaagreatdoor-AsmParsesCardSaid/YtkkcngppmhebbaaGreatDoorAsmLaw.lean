/-
  The plain laws of layer 18: what is told is read so; what is read may be; what a spread text reads as. No program in sight.
-/
import Derived.Test.YtkkcngppmhebbaaGreatDoorAsmRd
set_option linter.unusedVariables false
set_option linter.unusedSimpArgs false
namespace Go.Proofs.YtkkcngppmhebbaaGreatDoor
open Go.RowKit

/-! ### words and lines -/
/-- a byte that parts no words -/
def midB (b : UInt8) : Bool := b != 32 && (b != 9 && (b != 35 && b != 10))
def cleanW (w : List UInt8) : Prop := w ≠ [] ∧ ∀ b ∈ w, midB b = true
theorem midB_facts {b : UInt8} (h : midB b = true) : b ≠ 32 ∧ b ≠ 9 ∧ b ≠ 35 ∧ b ≠ 10 := by
  simpa [midB, bne_iff_ne] using h
theorem wordsGo_mid : ∀ (w cur r : List UInt8), (∀ b ∈ w, midB b = true) → wordsGo cur (w ++ r) = wordsGo (cur ++ w) r
  | [], cur, r, _ => by simp
  | b :: w, cur, r, h => by
    obtain ⟨h1, h2, h3, -⟩ := midB_facts (h b (by simp))
    rw [List.cons_append, wordsGo, if_neg h3, if_neg (by rintro (h | h) <;> contradiction), wordsGo_mid w (cur ++ [b]) r (fun x hx => h x (by simp [hx]))]
    simp
theorem flushV_ne {w : List UInt8} (h : w ≠ []) : flushV w = [w] := by
  unfold flushV
  cases w with
  | nil => exact absurd rfl h
  | cons _ _ => rfl
theorem wordsGo_words : ∀ (ws : List (List UInt8)) (cur : List UInt8), cur ≠ [] → (∀ w ∈ ws, cleanW w) → wordsGo cur (ws.flatMap fun w => 32 :: w) = cur :: ws
  | [], cur, hc, _ => by simp [wordsGo, flushV_ne hc]
  | w :: ws, cur, hc, h => by
    have hw := h w (by simp)
    rw [List.flatMap_cons, List.cons_append, wordsGo, if_neg (by decide), if_pos (.inl rfl), flushV_ne hc, wordsGo_mid w [] _ hw.2, List.nil_append,
      wordsGo_words ws w hw.1 (fun x hx => h x (by simp [hx]))]
    rfl
theorem wordsV_words (w0 : List UInt8) (ws : List (List UInt8)) (h0 : cleanW w0) (h : ∀ w ∈ ws, cleanW w) : wordsV (w0 ++ ws.flatMap fun w => 32 :: w) = w0 :: ws := by
  unfold wordsV
  rw [wordsGo_mid w0 [] _ h0.2, List.nil_append, wordsGo_words ws w0 h0.1 h]
theorem linesGo_line : ∀ (l cur r : List UInt8), (∀ b ∈ l, b ≠ 10) → linesGo cur (l ++ 10 :: r) = (cur ++ l) :: linesGo [] r
  | [], cur, r, _ => by simp [linesGo]
  | b :: l, cur, r, h => by
    rw [List.cons_append, linesGo, if_neg (h b (by simp)), linesGo_line l (cur ++ [b]) r (fun x hx => h x (by simp [hx]))]
    simp

/-! ### the words of an instruction -/
def opWords (o : Cmd) : List (List UInt8) :=
  match formV o.k with
  | none => []
  | some f => (if f.cal then [calcW o.c] else []) ++ (([o.a, o.b, o.d].take f.regs).map fun x => 114 :: Lib.itoa x) ++ (if f.num then [Lib.itoa o.n] else [])
theorem textOp_words {o : Cmd} {f : Form} (h : formV o.k = some f) : textOp o = (kindW o.k ++ (opWords o).flatMap fun w => 32 :: w) ++ [10] := by
  have hr : regText = fun a => 32 :: 114 :: Lib.itoa a := rfl
  unfold textOp opWords
  rw [h, hr]
  simp only [List.flatMap_append, List.append_assoc, List.flatMap_map]
  congr 1
  cases f.cal <;> cases f.num <;> simp
theorem itoa_clean (n : Int) : cleanW (Lib.itoa n) := by
  have hd : ∀ u : Nat, cleanW (Lib.decDigits u) := fun u => by
    obtain ⟨h1, -, -⟩ := decDigits_facts u u (Nat.le_refl _)
    refine ⟨fun h => by have := decDigits_pos u; rw [h] at this; simp at this, fun b hb => ?_⟩
    have h2 := h1 b hb
    have e : ∀ c : UInt8, c.toNat < 48 → b ≠ c := fun c hc e => by subst e; omega
    simp only [midB, Bool.and_eq_true, bne_iff_ne]
    exact ⟨e 32 (by decide), e 9 (by decide), e 35 (by decide), e 10 (by decide)⟩
  unfold Lib.itoa
  split
  · refine ⟨by simp, fun b hb => ?_⟩
    rcases List.mem_cons.1 hb with rfl | hb
    · decide
    · exact (hd _).2 b hb
  · exact hd _
theorem reg_clean (x : Int) : cleanW (114 :: Lib.itoa x) := ⟨by simp, fun b hb => by
  rcases List.mem_cons.1 hb with rfl | hb
  · decide
  · exact (itoa_clean x).2 b hb⟩
theorem kindW_clean : ∀ i, i < 15 → cleanW (kindW ((i + 1 : Nat) : Int)) := by
  intro i hi
  have : i = 0 ∨ i = 1 ∨ i = 2 ∨ i = 3 ∨ i = 4 ∨ i = 5 ∨ i = 6 ∨ i = 7 ∨ i = 8 ∨ i = 9 ∨ i = 10 ∨ i = 11 ∨ i = 12 ∨ i = 13 ∨ i = 14 := by omega
  rcases this with rfl | rfl | rfl | rfl | rfl | rfl | rfl | rfl | rfl | rfl | rfl | rfl | rfl | rfl | rfl <;> exact ⟨by decide, by decide⟩
theorem calcW_clean : ∀ i, i < 14 → cleanW (calcW ((i + 1 : Nat) : Int)) := by
  intro i hi
  have : i = 0 ∨ i = 1 ∨ i = 2 ∨ i = 3 ∨ i = 4 ∨ i = 5 ∨ i = 6 ∨ i = 7 ∨ i = 8 ∨ i = 9 ∨ i = 10 ∨ i = 11 ∨ i = 12 ∨ i = 13 := by omega
  rcases this with rfl | rfl | rfl | rfl | rfl | rfl | rfl | rfl | rfl | rfl | rfl | rfl | rfl | rfl <;> exact ⟨by decide, by decide⟩
theorem ok_form {o : Cmd} (h : okV o = true) : ∃ f, formV o.k = some f := by
  unfold okV at h
  cases hf : formV o.k with
  | none => rw [hf] at h; cases h
  | some f => exact ⟨f, rfl⟩
theorem form_kind {k : Int} {f : Form} (h : formV k = some f) : ∃ i, i < 15 ∧ k = ((i + 1 : Nat) : Int) := by
  rcases formV_cases k with h1 | ⟨h1, -⟩
  · exact ⟨(k - 1).toNat, by omega, by omega⟩
  · rw [h1] at h; cases h
/-- what an instruction that may be has -/
theorem ok_parts {o : Cmd} (h : okV o = true) {f : Form} (hf : formV o.k = some f) : (f.cal = !(o.c == 0)) ∧ o.c ≤ 14 ∧ regB f.regs 0 o.a = true ∧ regB f.regs 1 o.b = true ∧ regB f.regs 2 o.d = true ∧ (if f.num then decide (f.lo ≤ o.n ∧ o.n ≤ f.hi) else o.n == 0) = true := by
  unfold okV at h
  rw [hf] at h
  simp only [Bool.and_eq_true, beq_iff_eq, decide_eq_true_eq] at h
  obtain ⟨⟨⟨⟨⟨h1, h2⟩, h3⟩, h4⟩, h5⟩, h6⟩ := h
  exact ⟨h1, h2, h3, h4, h5, h6⟩
theorem calc_some {o : Cmd} (hw : o.Wf) {f : Form} (h1 : f.cal = !(o.c == 0)) (h2 : o.c ≤ 14) (hc : f.cal = true) : ∃ i, i < 14 ∧ o.c = ((i + 1 : Nat) : Int) := by
  rw [hc] at h1
  have h3 : o.c ≠ 0 := by intro e; rw [e] at h1; cases h1
  have := hw.c
  exact ⟨(o.c - 1).toNat, by omega, by omega⟩
theorem opWords_clean {o : Cmd} (h : okV o = true) (hw : o.Wf) : ∀ w ∈ opWords o, cleanW w := by
  obtain ⟨f, hf⟩ := ok_form h
  obtain ⟨h1, h2, -⟩ := ok_parts h hf
  unfold opWords
  rw [hf]
  intro w hw'
  simp only [List.mem_append] at hw'
  rcases hw' with (hm | hm) | hm
  · split at hm
    · next hc =>
      obtain ⟨i, hi, e⟩ := calc_some hw h1 h2 hc
      rw [List.mem_singleton] at hm
      rw [hm, e]
      exact calcW_clean i hi
    · cases hm
  · obtain ⟨x, -, rfl⟩ := List.mem_map.1 hm
    exact reg_clean x
  · split at hm
    · rw [List.mem_singleton] at hm
      rw [hm]; exact itoa_clean _
    · cases hm
theorem regOf_text {x : Int} (h0 : 0 ≤ x) (h8 : x < 8) : regOf (114 :: Lib.itoa x) = some x := by
  obtain ⟨n, rfl⟩ : ∃ n : Nat, x = n := ⟨x.toNat, by omega⟩
  have e : Lib.itoa (n : Int) = [UInt8.ofNat (48 + n)] := by
    unfold Lib.itoa
    rw [if_neg (by omega)]
    exact decDigits_small (by omega)
  have h : n = 0 ∨ n = 1 ∨ n = 2 ∨ n = 3 ∨ n = 4 ∨ n = 5 ∨ n = 6 ∨ n = 7 := by omega
  rw [e]
  rcases h with rfl | rfl | rfl | rfl | rfl | rfl | rfl | rfl <;> decide
theorem kindOf_kindW {k : Int} {f : Form} (h : formV k = some f) : kindOf (kindW k) = k := by
  obtain ⟨i, hi, rfl⟩ := form_kind h
  exact (kindOf_iff _ i hi).1 rfl
theorem regB_lt {r i : Nat} {x : Int} (h : regB r i x = true) (hi : i < r) : x < 8 := by
  unfold regB at h; rw [if_pos hi] at h; simpa using h
theorem regB_zero {r i : Nat} {x : Int} (h : regB r i x = true) (hi : ¬ i < r) : x = 0 := by
  unfold regB at h; rw [if_neg hi] at h; simpa using h
theorem cmdV_words {o : Cmd} (h : okV o = true) (hw : o.Wf) : cmdV (kindW o.k) (opWords o) = some (o, []) := by
  obtain ⟨f, hf⟩ := ok_form h
  obtain ⟨h1, h2, h3, h4, h5, h6⟩ := ok_parts h hf
  have hk := kindOf_kindW hf
  obtain ⟨ok, oc, oa, ob, od, on⟩ := o
  dsimp only at hf hk h1 h2 h3 h4 h5 h6
  have hn := parseV_of (l := Lib.itoa on) hw.n.1 hw.n.2 rfl
  have wa := hw.a.1
  have wb := hw.b.1
  have wd := hw.d.1
  dsimp only at wa wb wd
  have hcalc : f.cal = true → calcOf (calcW oc) = oc := fun hc => by
    obtain ⟨i, hi, e⟩ := calc_some hw h1 h2 hc
    dsimp only at e
    rw [e]
    exact (calcOf_iff _ i hi).1 rfl
  have hc0 : f.cal = false → oc = 0 := fun hc => by rw [hc] at h1; simpa using h1.symm
  have hn0 : f.num = false → on = 0 := fun hc => by rw [hc] at h6; simpa using h6
  unfold cmdV
  rw [hk, hf]
  have key : ∀ n : List (List UInt8), okV ⟨ok, oc, oa, ob, od, on⟩ = true → True := fun _ _ => trivial
  have hra := fun h => regOf_text wa (regB_lt h3 h)
  have hrb := fun h => regOf_text wb (regB_lt h4 h)
  have hrd := fun h => regOf_text wd (regB_lt h5 h)
  have hza := fun h => regB_zero h3 h
  have hzb := fun h => regB_zero h4 h
  have hzd := fun h => regB_zero h5 h
  have hop : opWords ⟨ok, oc, oa, ob, od, on⟩ = (if f.cal then [calcW oc] else []) ++ (([oa, ob, od].take f.regs).map fun x => 114 :: Lib.itoa x) ++ (if f.num then [Lib.itoa on] else []) := by
    unfold opWords
    dsimp only
    rw [hf]
  rw [hop]
  obtain ⟨fcal, fregs, fnum, flo, fhi, fj⟩ := f
  dsimp only at h1 h2 h3 h4 h5 h6 hcalc hc0 hn0 hra hrb hrd hza hzb hzd ⊢
  have hfr : fregs ≤ 3 := by
    rcases formV_cases ok with (rfl | rfl | rfl | rfl | rfl | rfl | rfl | rfl | rfl | rfl | rfl | rfl | rfl | rfl | rfl) | ⟨h0, -⟩
    all_goals first | (rw [h0] at hf; cases hf; done) | (injection hf with hf; injection hf with _ e; omega)
  obtain rfl | rfl | rfl | rfl : fregs = 0 ∨ fregs = 1 ∨ fregs = 2 ∨ fregs = 3 := by omega
  all_goals (cases fcal <;> cases fnum)
  all_goals (first | (have e0 := hc0 rfl; subst e0; have e := True.intro) | have e := hcalc rfl)
  all_goals (first | (have e20 := hn0 rfl; subst e20) | skip)
  all_goals (first | (have ea0 := hza (by omega); subst ea0; have ea := True.intro) | have ea := hra (by omega))
  all_goals (first | (have eb0 := hzb (by omega); subst eb0; have eb := True.intro) | have eb := hrb (by omega))
  all_goals (first | (have ed0 := hzd (by omega); subst ed0; have ed := True.intro) | have ed := hrd (by omega))
  all_goals (clear h1 h2 h3 h4 h5 h6 hcalc hc0 hn0 hra hrb hrd hza hzb hzd hop hf hk hw key)
  all_goals simp [List.getD, numV, e, ea, eb, ed, hn, h]

theorem insV_words (r : Rd) {o : Cmd} (h : okV o = true) (hw : o.Wf) (line : Nat) : insV r (kindW o.k) (opWords o) line = some { r with ops := r.ops ++ [o] } := by
  unfold insV
  rw [cmdV_words h hw]
  simp
theorem kindW_last : ∀ i, i < 15 → (kindW ((i + 1 : Nat) : Int)).getLast? ≠ some 58 := by
  intro i hi
  have : i = 0 ∨ i = 1 ∨ i = 2 ∨ i = 3 ∨ i = 4 ∨ i = 5 ∨ i = 6 ∨ i = 7 ∨ i = 8 ∨ i = 9 ∨ i = 10 ∨ i = 11 ∨ i = 12 ∨ i = 13 ∨ i = 14 := by omega
  rcases this with rfl | rfl | rfl | rfl | rfl | rfl | rfl | rfl | rfl | rfl | rfl | rfl | rfl | rfl | rfl <;> decide
theorem lineV_words (r : Rd) {o : Cmd} (h : okV o = true) (hw : o.Wf) (line : Nat) : lineV r line (kindW o.k :: opWords o) = .inl { r with ops := r.ops ++ [o] } := by
  obtain ⟨f, hf⟩ := ok_form h
  obtain ⟨i, hi, e⟩ := form_kind hf
  unfold lineV
  dsimp only
  rw [if_neg (fun hc => kindW_last i hi (e ▸ hc.2)), insV_words r h hw]
/-- an instruction's line -/
def bodyOp (o : Cmd) : List UInt8 := kindW o.k ++ (opWords o).flatMap fun w => 32 :: w
theorem body_feed {o : Cmd} (h : okV o = true) (hw : o.Wf) : ∀ b ∈ bodyOp o, b ≠ 10 := by
  obtain ⟨f, hf⟩ := ok_form h
  obtain ⟨i, hi, e⟩ := form_kind hf
  intro b hb
  unfold bodyOp at hb
  rcases List.mem_append.1 hb with hb | hb
  · rw [e] at hb
    exact (midB_facts ((kindW_clean i hi).2 b hb)).2.2.2
  · obtain ⟨w, hw', hb⟩ := List.mem_flatMap.1 hb
    rcases List.mem_cons.1 hb with rfl | hb
    · decide
    · exact (midB_facts ((opWords_clean h hw w hw').2 b hb)).2.2.2
theorem body_words {o : Cmd} (h : okV o = true) (hw : o.Wf) : wordsV (bodyOp o) = kindW o.k :: opWords o := by
  obtain ⟨f, hf⟩ := ok_form h
  obtain ⟨i, hi, e⟩ := form_kind hf
  exact wordsV_words _ _ (by rw [e]; exact kindW_clean i hi) (opWords_clean h hw)
theorem lines_text : ∀ (l : List Cmd), (∀ o ∈ l, okV o = true ∧ o.Wf) → linesGo [] (l.flatMap textOp) = l.map bodyOp ++ [[]]
  | [], _ => by simp [linesGo]
  | o :: l, h => by
    obtain ⟨h1, h2⟩ := h o (by simp)
    obtain ⟨f, hf⟩ := ok_form h1
    have hl := linesGo_line (bodyOp o) [] (l.flatMap textOp) (body_feed h1 h2)
    unfold bodyOp at hl
    rw [List.flatMap_cons, textOp_words hf, List.append_assoc, List.singleton_append, hl, lines_text l (fun x hx => h x (by simp [hx]))]
    simp [bodyOp]
theorem runV_text : ∀ (l : List Cmd) (r : Rd) (line : Nat), (∀ o ∈ l, okV o = true ∧ o.Wf) → runV r line (l.map bodyOp ++ [[]]) = .inl { r with ops := r.ops ++ l }
  | [], r, line, _ => by simp [runV, wordsV, wordsGo, flushV, lineV]
  | o :: l, r, line, h => by
    obtain ⟨h1, h2⟩ := h o (by simp)
    rw [List.map_cons, List.cons_append, runV, body_words h1 h2, lineV_words r h1 h2]
    dsimp only
    rw [runV_text l _ _ (fun x hx => h x (by simp [hx]))]
    simp
theorem textGo_is : ∀ (l : List Cmd) (t u : List UInt8), t.length ≤ 65536 → textGo t l = some u → u = t ++ l.flatMap textOp ∧ u.length ≤ 65536
  | [], t, u, ht, h => by
    rw [textGo] at h
    injection h with h
    subst h
    exact ⟨by simp, ht⟩
  | o :: l, t, u, ht, h => by
    rw [textGo] at h
    split at h
    · cases h
    · next hn =>
      obtain ⟨e, hl⟩ := textGo_is l _ u (by omega) h
      exact ⟨by rw [e]; simp, hl⟩
/-- WHAT IS TOLD IS READ SO -/
theorem parse_text {l : List Cmd} (hw : ∀ o ∈ l, o.Wf) {t : List UInt8} (h : textA l = (t, 0)) : parseA t = .inl l := by
  unfold textA at h
  split at h
  · injection h with _ h; cases h
  split at h
  · next ha =>
    have hall := List.all_eq_true.1 ha
    cases hg : textGo [] l with
    | none => rw [hg] at h; injection h with _ h; cases h
    | some u =>
      rw [hg] at h
      injection h with h _
      subst h
      obtain ⟨e, hl⟩ := textGo_is l [] u (by simp) hg
      unfold parseA
      rw [if_neg (by omega)]
      have hlin : linesV u = l.map bodyOp ++ [[]] := by
        unfold linesV
        rw [e, List.nil_append]
        exact lines_text l (fun o ho => ⟨hall o ho, hw o ho⟩)
      rw [hlin, runV_text l _ _ (fun o ho => ⟨hall o ho, hw o ho⟩)]
      simp [goalsV]
  · injection h with _ h; cases h
end Go.Proofs.YtkkcngppmhebbaaGreatDoor
