/-
  Decimal digits, plain: what a numeral is, what it is worth; how the library's readers and the document's reader answer at it. No program in sight.
-/
import Derived.WalkKit
import Derived.Lib.ItoaNum
import Derived.Lib.ItoaMem
import Derived.Lib.ParseIntB
set_option linter.unusedVariables false
set_option linter.unusedSimpArgs false
namespace Go.Proofs.YtblnmlbkgdncnaaDoor

/-- what digits behind a number a are worth together -/
def dval : Nat → List UInt8 → Nat
  | a, [] => a
  | a, c :: r => dval (a * 10 + (c.toNat - 48)) r
def allDig (l : List UInt8) : Prop := ∀ c ∈ l, 48 ≤ c.toNat ∧ c.toNat ≤ 57

theorem dval_append (a : Nat) (l r : List UInt8) : dval a (l ++ r) = dval (dval a l) r := by
  induction l generalizing a with
  | nil => rfl
  | cons c l ih => exact ih _
theorem le_dval (a : Nat) (l : List UInt8) : a ≤ dval a l := by
  induction l generalizing a with
  | nil => exact Nat.le_refl _
  | cons c l ih => exact Nat.le_trans (by omega) (ih _)

theorem digit_toNat {d : Nat} (h : d < 10) : (UInt8.ofNat (48 + d)).toNat = 48 + d := by
  simp; omega
theorem decDigits_small {u : Nat} (h : u < 10) : Lib.decDigits u = [UInt8.ofNat (48 + u)] := by rw [Lib.decDigits, dif_pos h]
theorem decDigits_step {u : Nat} (h : ¬ u < 10) : Lib.decDigits u = Lib.decDigits (u / 10) ++ [UInt8.ofNat (48 + u % 10)] := by rw [Lib.decDigits, dif_neg h]

theorem decDigits_len : ∀ (k u : Nat), u < 10 ^ (k + 1) → (Lib.decDigits u).length ≤ k + 1
  | 0, u, h => by rw [decDigits_small (by simpa using h)]; simp
  | k + 1, u, h => by
    by_cases h10 : u < 10
    · rw [decDigits_small h10]; simp
    · rw [decDigits_step h10, List.length_append]
      have := decDigits_len k (u / 10) (by rw [Nat.pow_succ] at h; omega)
      simp only [List.length_singleton]; omega
theorem decDigits_pos (u : Nat) : 0 < (Lib.decDigits u).length := by
  by_cases h10 : u < 10
  · rw [decDigits_small h10]; simp
  · rw [decDigits_step h10, List.length_append]; simp

theorem decDigits_facts : ∀ (n u : Nat), u ≤ n → allDig (Lib.decDigits u) ∧ dval 0 (Lib.decDigits u) = u ∧ (∀ c r, Lib.decDigits u = c :: r → c.toNat = 48 → u = 0 ∧ r = [])
  | n, u, hn => by
    by_cases h10 : u < 10
    · rw [decDigits_small h10]
      have hd := digit_toNat h10
      refine ⟨?_, ?_, ?_⟩
      · intro c hc
        obtain rfl : c = UInt8.ofNat (48 + u) := by simpa using hc
        omega
      · show 0 * 10 + ((UInt8.ofNat (48 + u)).toNat - 48) = u
        omega
      · intro c r h hc
        injection h with h1 h2
        subst h1
        exact ⟨by omega, h2.symm⟩
    · rw [decDigits_step h10]
      match n with
      | 0 => omega
      | n + 1 =>
        obtain ⟨f1, f2, f3⟩ := decDigits_facts n (u / 10) (by omega)
        have hd := digit_toNat (d := u % 10) (by omega)
        refine ⟨?_, ?_, ?_⟩
        · intro c hc
          rcases List.mem_append.1 hc with h | h
          · exact f1 c h
          · obtain rfl : c = UInt8.ofNat (48 + u % 10) := by simpa using h
            omega
        · rw [dval_append, f2]
          show u / 10 * 10 + ((UInt8.ofNat (48 + u % 10)).toNat - 48) = u
          omega
        · intro c r h hc
          have hp := decDigits_pos (u / 10)
          cases hx : Lib.decDigits (u / 10) with
          | nil => rw [hx] at hp; simp at hp
          | cons c' r' =>
            rw [hx] at h
            injection h with h1 h2
            subst h1
            have := (f3 _ _ hx hc).1
            omega

/-- a numeral without a nought ahead is the numeral of what it is worth -/
theorem decDigits_dval (l : List UInt8) (h1 : allDig l) (h2 : l ≠ []) (h3 : ∀ c r, l = c :: r → c.toNat = 48 → r = []) : Lib.decDigits (dval 0 l) = l := by
  have key : ∀ (n : Nat) (l : List UInt8), l.length ≤ n → allDig l → l ≠ [] → (∀ c r, l = c :: r → c.toNat = 48 → r = []) → Lib.decDigits (dval 0 l) = l := by
    intro n
    induction n with
    | zero => intro l hn _ h2 _; exact absurd (List.eq_nil_of_length_eq_zero (by omega)) h2
    | succ n ih =>
      intro l hn h1 h2 h3
      obtain ⟨r, c, rfl⟩ : ∃ r c, l = r ++ [c] := ⟨l.dropLast, l.getLast h2, (List.dropLast_concat_getLast h2).symm⟩
      have hc := h1 c (by simp)
      have ec : UInt8.ofNat (48 + (c.toNat - 48)) = c := by
        rw [show 48 + (c.toNat - 48) = c.toNat by omega]; simp
      rw [dval_append]
      show Lib.decDigits (dval 0 r * 10 + (c.toNat - 48)) = r ++ [c]
      by_cases hr : r = []
      · subst hr
        show Lib.decDigits (0 * 10 + (c.toNat - 48)) = [c]
        rw [decDigits_small (by omega), Nat.zero_mul, Nat.zero_add, ec]
      · have hr1 : allDig r := fun x hx => h1 x (by simp [hx])
        have hr3 : ∀ c' r', r = c' :: r' → c'.toNat ≠ 48 := by
          intro c' r' e hc'
          have := h3 c' (r' ++ [c]) (by rw [e]; rfl) hc'
          simp at this
        have e := ih r (by simp at hn; omega) hr1 hr (fun c' r' e hc' => absurd hc' (hr3 c' r' e))
        have hpos : 1 ≤ dval 0 r := by
          cases r with
          | nil => exact absurd rfl hr
          | cons x t =>
            have h0 := hr1 x (by simp)
            have h4 := hr3 x t rfl
            have h5 := le_dval (0 * 10 + (x.toNat - 48)) t
            show 1 ≤ dval (0 * 10 + (x.toNat - 48)) t
            omega
        rw [decDigits_step (by omega), show (dval 0 r * 10 + (c.toNat - 48)) / 10 = dval 0 r by omega, show (dval 0 r * 10 + (c.toNat - 48)) % 10 = c.toNat - 48 by omega, e, ec]
  exact key l.length l (Nat.le_refl _) h1 h2 h3

/-! ### the library's reader of digits -/
theorem parseUintM_ok (M : Nat) (hM : M ≤ 18446744073709551615) : ∀ (l : List UInt8) (a u : Nat), Lib.parseUintM M a l = .ok u → a ≤ M → allDig l ∧ u = dval a l ∧ u ≤ M
  | [], a, u, h, ha => by
    injection h with h
    subst h
    exact ⟨fun c hc => (List.not_mem_nil hc).elim, rfl, ha⟩
  | c :: r, a, u, h, ha => by
    unfold Lib.parseUintM at h
    split at h
    · rename_i hc
      split at h
      · cases h
      · split at h
        · cases h
        · rename_i h2
          obtain ⟨g1, g2, g3⟩ := parseUintM_ok M hM r _ u h (by omega)
          refine ⟨?_, g2, g3⟩
          intro x hx
          rcases List.mem_cons.1 hx with rfl | hx
          · exact hc
          · exact g1 x hx
    · cases h
theorem parseUintM_of (M : Nat) (hM : M ≤ 18446744073709551615) : ∀ (l : List UInt8) (a : Nat), allDig l → dval a l ≤ M → Lib.parseUintM M a l = .ok (dval a l)
  | [], a, _, _ => rfl
  | c :: r, a, h1, h2 => by
    have hc := h1 c (by simp)
    have h3 := le_dval (a * 10 + (c.toNat - 48)) r
    have h4 : dval (a * 10 + (c.toNat - 48)) r ≤ M := h2
    unfold Lib.parseUintM
    rw [if_pos hc, if_neg (by omega), if_neg (by omega)]
    exact parseUintM_of M hM r _ (fun x hx => h1 x (List.mem_cons_of_mem _ hx)) h2

theorem parseUintB_dec (u : Nat) (h : u ≤ 18446744073709551615) : Lib.parseUintB 64 (Lib.decDigits u) = .ok u := by
  obtain ⟨f1, f2, _⟩ := decDigits_facts u u (Nat.le_refl _)
  have hne : Lib.decDigits u ≠ [] := fun e => by have := decDigits_pos u; rw [e] at this; simp at this
  unfold Lib.parseUintB
  rw [if_neg hne, parseUintM_of _ (by decide) _ _ f1 (by rw [f2]; exact h), f2]

theorem parseIntB_itoa (v : Int) (h1 : -9223372036854775808 ≤ v) (h2 : v ≤ 9223372036854775807) : Lib.parseIntB 64 (Lib.itoa v) = .ok v := by
  by_cases hv : v < 0
  · have e : Lib.itoa v = 45 :: Lib.decDigits v.natAbs := by unfold Lib.itoa; rw [if_pos hv]
    rw [e]
    have hp := parseUintB_dec v.natAbs (by omega)
    unfold Lib.parseIntB
    simp only [show (45 : UInt8).toNat = 45 from rfl, or_true, if_true, hp]
    rw [if_neg (by simp), if_neg (by simp; omega)]
    congr 1; omega
  · have e : Lib.itoa v = Lib.decDigits v.toNat := by unfold Lib.itoa; rw [if_neg hv]
    rw [e]
    have hp := parseUintB_dec v.toNat (by omega)
    obtain ⟨f1, _, _⟩ := decDigits_facts v.toNat v.toNat (Nat.le_refl _)
    cases hx : Lib.decDigits v.toNat with
    | nil => have := decDigits_pos v.toNat; rw [hx] at this; simp at this
    | cons c r =>
      rw [hx] at hp f1
      have hc := f1 c (by simp)
      unfold Lib.parseIntB
      have e1 : ¬ (c.toNat = 43 ∨ c.toNat = 45) := by omega
      have e2 : ¬ (c.toNat = 45) := by omega
      simp only [if_neg e1]
      rw [hp]
      simp only [e2]
      show (if ¬False ∧ 2 ^ (64 - 1) ≤ v.toNat then Lib.NumEnd.range else if False ∧ 2 ^ (64 - 1) < v.toNat then .range else .ok (if False then -(v.toNat : Int) else v.toNat)) = .ok v
      rw [if_neg (by simp; omega), if_neg (by simp), if_neg (by simp)]
      congr 1; omega

/-! ### the document's reader of digits -/
def digLoop (most : Nat) : Nat → List UInt8 → Nat × Bool
  | n, [] => (n, true)
  | n, c :: r => if c.toNat < 48 ∨ 57 < c.toNat then (0, false) else if (most - (c.toNat - 48)) / 10 < n then (0, false) else digLoop most (n * 10 + (c.toNat - 48)) r
def digitsV (l : List UInt8) (most : Nat) : Nat × Bool :=
  if l.length < 1 ∨ 20 < l.length ∨ (1 < l.length ∧ (l.headD 0).toNat = 48) then (0, false) else digLoop most 0 l

theorem digLoop_ok (most : Nat) (hm : 9 ≤ most) : ∀ (l : List UInt8) (a n : Nat), digLoop most a l = (n, true) → a ≤ most → allDig l ∧ n = dval a l ∧ n ≤ most
  | [], a, n, h, ha => by
    injection h with h _
    subst h
    exact ⟨fun c hc => (List.not_mem_nil hc).elim, rfl, ha⟩
  | c :: r, a, n, h, ha => by
    unfold digLoop at h
    split at h
    · cases h
    · rename_i hc
      split at h
      · cases h
      · rename_i h2
        obtain ⟨g1, g2, g3⟩ := digLoop_ok most hm r _ n h (by omega)
        refine ⟨?_, g2, g3⟩
        intro x hx
        rcases List.mem_cons.1 hx with rfl | hx
        · omega
        · exact g1 x hx
theorem digLoop_of (most : Nat) (hm : 9 ≤ most) : ∀ (l : List UInt8) (a : Nat), allDig l → dval a l ≤ most → digLoop most a l = (dval a l, true)
  | [], a, _, _ => rfl
  | c :: r, a, h1, h2 => by
    have hc := h1 c (by simp)
    have h3 := le_dval (a * 10 + (c.toNat - 48)) r
    have h4 : dval (a * 10 + (c.toNat - 48)) r ≤ most := h2
    unfold digLoop
    rw [if_neg (by omega), if_neg (by omega)]
    exact digLoop_of most hm r _ (fun x hx => h1 x (List.mem_cons_of_mem _ hx)) h2
theorem digLoop_false (most : Nat) : ∀ (l : List UInt8) (a : Nat), (digLoop most a l).2 = false → digLoop most a l = (0, false)
  | [], a, h => by cases h
  | c :: r, a, h => by
    unfold digLoop at h ⊢
    split
    · rfl
    · rename_i h1
      rw [if_neg h1] at h
      split
      · rfl
      · rename_i h2
        rw [if_neg h2] at h
        exact digLoop_false most r _ h

theorem digitsV_dec (u most : Nat) (h : u ≤ most) (hm : 9 ≤ most) (hb : most ≤ 18446744073709551615) : digitsV (Lib.decDigits u) most = (u, true) := by
  obtain ⟨f1, f2, f3⟩ := decDigits_facts u u (Nat.le_refl _)
  have hl := decDigits_len 19 u (by omega)
  have hp := decDigits_pos u
  unfold digitsV
  rw [if_neg, digLoop_of most hm _ _ f1 (by rw [f2]; exact h), f2]
  rintro (h1 | h1 | ⟨h1, h2⟩)
  · omega
  · omega
  · cases hx : Lib.decDigits u with
    | nil => rw [hx] at hp; simp at hp
    | cons c r =>
      rw [hx] at h2 h1
      have := (f3 c r hx h2).2
      rw [this] at h1
      simp at h1
theorem digitsV_ok {l : List UInt8} {most n : Nat} (hm : 9 ≤ most) (h : digitsV l most = (n, true)) : l = Lib.decDigits n ∧ n ≤ most := by
  unfold digitsV at h
  split at h
  · cases h
  · rename_i hc
    obtain ⟨g1, g2, g3⟩ := digLoop_ok most hm l 0 n h (Nat.zero_le _)
    refine ⟨?_, g3⟩
    rw [g2]
    refine (decDigits_dval l g1 (fun e => hc (.inl (by rw [e]; simp))) ?_).symm
    intro c r e hc48
    cases r with
    | nil => rfl
    | cons x t => exact absurd (.inr (.inr ⟨by rw [e]; simp, by rw [e]; exact hc48⟩)) hc
theorem digitsV_false {l : List UInt8} {most : Nat} (h : (digitsV l most).2 = false) : digitsV l most = (0, false) := by
  unfold digitsV at h ⊢
  split
  · rfl
  · rename_i h1
    rw [if_neg h1] at h
    exact digLoop_false most l 0 h
end Go.Proofs.YtblnmlbkgdncnaaDoor
