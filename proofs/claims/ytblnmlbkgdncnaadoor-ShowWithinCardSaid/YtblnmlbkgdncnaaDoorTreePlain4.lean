/-
  The language's trees, plain: whole programs: how many items, how long the text, what the writer holds; an expression alone and in a program.
-/
import Derived.Test.YtblnmlbkgdncnaaDoorTreePlain3
set_option linter.unusedVariables false
set_option linter.unusedSimpArgs false
namespace Go.Proofs.YtblnmlbkgdncnaaDoor

theorem form_y {s : St} (h : stForm s = true) : (s.k ≠ 2 → noEx s.y = true) ∧ (s.k = 5 → noEx s.x = true) ∧ (s.k ≠ 3 ∧ s.k ≠ 4 ∧ s.k ≠ 5 → s.body = []) ∧ (s.k ≠ 3 → s.els = []) := by
  unfold stForm at h
  split at h
  · next hk =>
    simp only [Bool.and_eq_true, List.isEmpty_iff] at h
    exact ⟨fun hh => absurd hk hh, fun hh => by omega, fun _ => h.2.2.2.1, fun _ => h.2.2.2.2⟩
  · split at h
    · cases h
    · split at h
      · cases h
      · simp only [Bool.and_eq_true, Bool.or_eq_true, decide_eq_true_eq, List.isEmpty_iff] at h
        obtain ⟨-, h1, h2, h3, h4⟩ := h
        refine ⟨fun _ => h1, fun hk => h2.resolve_left (fun hh => hh hk), fun hk => ?_, fun hk => h4.resolve_left hk⟩
        rcases h3 with h3 | h3 | h3 | h3
        · exact absurd h3 hk.1
        · exact absurd h3 hk.2.1
        · exact absurd h3 hk.2.2
        · exact h3
theorem none_given {x : Ex} (h : noEx x = true) : exGiven x = 0 := by unfold exGiven; rw [h]; rfl
mutual
theorem chkSt_it : ∀ (s : St) (deep : Nat) (a a' : At), chkSt s deep a = .on a' → a'.it = a.it + stCount s ∧ a'.it ≤ 1024
  | .mk k nm t x y bd body ed els, deep, a, a', h => by
    have g := chkSt_on h
    have hfy := form_y g.form
    rw [chkSt] at h
    cases hi : itemC deep a.it with
    | error e => rw [hi] at h; cases h
    | ok it =>
      rw [hi] at h
      dsimp only at h
      obtain ⟨hi1, hi2, -⟩ := itemC_ok hi
      split at h
      · cases h
      · split at h
        · cases h
        · cases hx : (if k = 5 ∨ ((k = 1 ∨ k = 7) ∧ noEx x = true) then Chk.on ⟨a.p, it⟩ else chkXt x ⟨a.p, it⟩) with
          | bad p e => rw [hx] at h; cases h
          | on a1 =>
            rw [hx] at h
            dsimp only at h
            cases hy : (if k = 2 then chkXt y a1 else Chk.on a1) with
            | bad p e => rw [hy] at h; cases h
            | on a2 =>
              rw [hy] at h
              dsimp only at h
              cases hb : chkSts body (deep + 1) a2 with
              | bad p e => rw [hb] at h; cases h
              | on a3 =>
                rw [hb] at h
                have e1 : a1.it = it + exGiven x ∧ a1.it ≤ 1024 := by
                  by_cases hbare : k = 5 ∨ ((k = 1 ∨ k = 7) ∧ noEx x = true)
                  · rw [if_pos hbare] at hx
                    injection hx with hx
                    subst hx
                    have : noEx x = true := hbare.elim (fun h5 => hfy.2.1 h5) (fun h5 => h5.2)
                    rw [none_given this]
                    exact ⟨rfl, hi2⟩
                  · rw [if_neg hbare] at hx
                    obtain ⟨m, hm, rfl⟩ := chkXt_on hx
                    have := ex_given hm
                    have h2 := chkEx_ok x 1 it m hm
                    rw [this.2]
                    exact ⟨h2.1, h2.2.1⟩
                have e2 : a2.it = a1.it + exGiven y ∧ a2.it ≤ 1024 := by
                  by_cases hk2 : k = 2
                  · rw [if_pos hk2] at hy
                    obtain ⟨m, hm, rfl⟩ := chkXt_on hy
                    have := ex_given hm
                    have h2 := chkEx_ok y 1 a1.it m hm
                    rw [this.2]
                    exact ⟨h2.1, h2.2.1⟩
                  · rw [if_neg hk2] at hy
                    injection hy with hy
                    subst hy
                    have h0 : noEx y = true := hfy.1 hk2
                    rw [none_given h0]
                    exact ⟨rfl, e1.2⟩
                have e3 := chkSts_it body (deep + 1) a2 a3 hb e2.2
                have e4 := chkSts_it els (deep + 1) a3 a' h e3.2
                rw [stCount]
                omega
theorem chkSts_it : ∀ (l : List St) (deep : Nat) (a a' : At), chkSts l deep a = .on a' → a.it ≤ 1024 → a'.it = a.it + stCounts l ∧ a'.it ≤ 1024
  | [], deep, a, a', h, hi => by
    rw [chkSts] at h
    injection h with h
    subst h
    exact ⟨by rw [stCounts]; rfl, hi⟩
  | s :: r, deep, a, a', h, hi => by
    obtain ⟨a1, h1, h2⟩ := chkSts_on h
    have e1 := chkSt_it s deep _ a1 h1
    have e2 := chkSts_it r deep a1 a' h2 e1.2
    rw [stCounts]
    dsimp only at e1
    omega
end
theorem chkFls_ok : ∀ (l : List Fl) (i : Nat), chkFls i l = 0 → (l ≠ [] → i + l.length ≤ 16) ∧ ∀ f ∈ l, nameB f.nm = true ∧ tyForm f.t = 0
  | [], i, h => ⟨fun hh => absurd rfl hh, fun f hf => by cases hf⟩
  | f :: r, i, h => by
    rw [chkFls] at h
    split at h
    · cases h
    · next h1 =>
      split at h
      · cases h
      · next h2 =>
        split at h
        · next h3 => exact absurd h h3
        · next h3 =>
          obtain ⟨h4, h5⟩ := chkFls_ok r (i + 1) h
          refine ⟨fun _ => ?_, fun g hg => ?_⟩
          · cases r with
            | nil => simp; omega
            | cons z r => have := h4 (by simp); simp only [List.length_cons] at this ⊢; omega
          · rcases List.mem_cons.1 hg with rfl | hg
            · refine ⟨?_, Decidable.not_not.1 h3⟩
              cases hb : nameB g.nm with
              | true => rfl
              | false => exact absurd hb h2
            · exact h5 g hg
theorem joined_le (sep : List UInt8) (hs : sep.length ≤ 4) (n : Nat) : ∀ l : List (List UInt8), (∀ x ∈ l, x.length ≤ n) → (joined sep l).length ≤ (n + 4) * l.length
  | [], _ => by simp [joined]
  | [x], h => by have := h x (by simp); simp [joined]; omega
  | x :: y :: r, h => by
    have h1 := joined_le sep hs n (y :: r) (fun z hz => h z (by simp [hz]))
    have h2 := h x (by simp)
    rw [joined]
    simp only [List.length_append, List.length_cons] at h1 ⊢
    rw [show (n + 4) * (r.length + 1 + 1) = (n + 4) * (r.length + 1) + (n + 4) by rw [Nat.mul_add (n + 4) (r.length + 1) 1, Nat.mul_one]]
    omega
theorem flText_len {f : Fl} (h : nameB f.nm = true ∧ tyForm f.t = 0) : (flText f).length ≤ 70 := by
  have h1 := (nameB_len h.1).1
  have h2 := tyText_len h.2
  unfold flText
  simp only [List.length_append, List.length_cons, List.length_nil]; omega
theorem flsText_len {l : List Fl} (h : chkFls 0 l = 0) (sep : List UInt8) (hs : sep.length ≤ 4) : (flsText sep l).length ≤ 1200 := by
  obtain ⟨h1, h2⟩ := chkFls_ok l 0 h
  have h3 := joined_le sep hs 70 (l.map flText) (fun x hx => by
    obtain ⟨f, hf, rfl⟩ := List.mem_map.1 hx
    exact flText_len (h2 f hf))
  unfold flsText
  rw [List.length_map] at h3
  by_cases hl : l = []
  · subst hl; simp [joined]
  · have := h1 hl
    have : (70 + 4) * l.length ≤ (70 + 4) * 16 := Nat.mul_le_mul_left _ (by omega)
    omega

/-! ### the writer of programs -/
def fuHead (f : Fu) : List UInt8 := ([102, 117, 110, 99, 32] ++ (f.nm ++ [40])) ++ (flsText [44, 32] f.ps ++ ([41, 32] ++ ((if noTy f.t then [] else tyText f.t ++ [32]) ++ [123, 10])))
def wFus (acc : List UInt8) : List Fu → List UInt8
  | [] => acc
  | f :: r => wFus (wSts (acc ++ fuHead f) f.body [32, 32] ++ ([125] ++ [10])) r
def wThs (acc : List UInt8) : List Th → List UInt8
  | [] => acc
  | t :: r => wThs (wSts (acc ++ ([116, 104, 114, 101, 97, 100, 32] ++ [123, 10])) t.l [32, 32] ++ ([125] ++ [10])) r
def prHead (p : Pr) : List UInt8 := (p.rs.map reText).flatten ++ (p.ss.map shText).flatten
def wPr (p : Pr) : List UInt8 := wThs (wFus (prHead p) p.fs) p.ts
theorem fuText_is (f : Fu) : fuText f = fuHead f ++ (stTexts f.body [32, 32] ++ ([125] ++ [10])) := by
  unfold fuText fuHead blockText
  simp
theorem thText_is (t : Th) : thText t = ([116, 104, 114, 101, 97, 100, 32] ++ [123, 10]) ++ (stTexts t.l [32, 32] ++ ([125] ++ [10])) := by
  unfold thText blockText
  simp
theorem wFus_is : ∀ (l : List Fu) (acc : List UInt8), Wr acc (l.map fuText).flatten (wFus acc l) ∧ (wFus acc l).length ≤ acc.length + (l.map fuText).flatten.length
  | [], acc => ⟨.inl (by simp [wFus]), by simp [wFus]⟩
  | f :: r, acc => by
    rw [wFus, List.map_cons, List.flatten_cons, fuText_is]
    obtain ⟨a1, a2⟩ := wSts_is (acc ++ fuHead f) f.body [32, 32]
    obtain ⟨b1, b2⟩ := wFus_is r (wSts (acc ++ fuHead f) f.body [32, 32] ++ ([125] ++ [10]))
    refine ⟨?_, ?_⟩
    · exact (((Wr.app acc (fuHead f)).trans (a1.trans (.app _ _)))).trans b1
    · simp only [List.length_append] at *; omega
theorem wThs_is : ∀ (l : List Th) (acc : List UInt8), Wr acc (l.map thText).flatten (wThs acc l) ∧ (wThs acc l).length ≤ acc.length + (l.map thText).flatten.length
  | [], acc => ⟨.inl (by simp [wThs]), by simp [wThs]⟩
  | t :: r, acc => by
    rw [wThs, List.map_cons, List.flatten_cons, thText_is]
    obtain ⟨a1, a2⟩ := wSts_is (acc ++ ([116, 104, 114, 101, 97, 100, 32] ++ [123, 10])) t.l [32, 32]
    obtain ⟨b1, b2⟩ := wThs_is r (wSts (acc ++ ([116, 104, 114, 101, 97, 100, 32] ++ [123, 10])) t.l [32, 32] ++ ([125] ++ [10]))
    refine ⟨?_, ?_⟩
    · exact (((Wr.app acc _).trans (a1.trans (.app _ _)))).trans b1
    · simp only [List.length_append] at *; omega
theorem wPr_is (p : Pr) : Wr [] (prText p) (wPr p) := by
  unfold wPr prText
  have h1 := (wFus_is p.fs (prHead p)).1
  have h2 := (wThs_is p.ts (wFus (prHead p) p.fs)).1
  have := (Wr.app [] (prHead p)).trans (h1.trans h2)
  simpa [prHead] using this
/-- what show.Program answers out of what its writer holds -/
theorem showPr_of (p : Pr) (h : (faultOf p).2 = 0) : showPr p = if 65536 < (wPr p).length then ([], 3) else (wPr p, 0) := by
  unfold showPr
  rw [if_neg (by simpa using h)]
  rcases wPr_is p with e | ⟨h1, h2⟩
  · rw [e]; simp
  · rw [List.nil_append] at h2
    rw [if_pos h2, if_pos h1]

/-! ### bounds of a program that may be -/
structure PrGood (p : Pr) : Prop where
  recs : p.rs.length ≤ 16 ∧ ∀ r ∈ p.rs, nameB r.nm = true ∧ r.fs ≠ [] ∧ chkFls 0 r.fs = 0
  shs : p.ss.length ≤ 1024 ∧ ∀ f ∈ p.ss, chkFls 0 [f] = 0
  funs : p.fs.length ≤ 32 ∧ ∀ f ∈ p.fs, nameB f.nm = true ∧ chkFls 0 f.ps = 0 ∧ (noTy f.t = true ∨ tyForm f.t = 0) ∧ ∃ a a', chkSts f.body 1 a = .on a'
  thrs : p.ts.length ≤ 4 ∧ ∀ t ∈ p.ts, ∃ a a', chkSts t.l 1 a = .on a'
  items : itemsOf p ≤ 1024
theorem chkRes_ok : ∀ (l : List Re) (i : Nat) (a a' : At), chkRes i l a = .on a' → i ≤ 16 → i + l.length ≤ 16 ∧ (∀ r ∈ l, nameB r.nm = true ∧ r.fs ≠ [] ∧ chkFls 0 r.fs = 0) ∧ a'.it = a.it
  | [], i, a, a', h, hi => by
    rw [chkRes] at h; injection h with h; subst h
    exact ⟨by simpa using hi, fun r hr => (by cases hr), rfl⟩
  | r :: l, i, a, a', h, hi => by
    rw [chkRes] at h
    split at h
    · cases h
    · split at h
      · cases h
      · next h2 =>
        split at h
        · cases h
        · next h3 =>
          obtain ⟨e1, e2, e3⟩ := chkRes_ok l (i + 1) _ a' h (by omega)
          refine ⟨by simp only [List.length_cons]; omega, fun z hz => ?_, e3⟩
          rcases List.mem_cons.1 hz with rfl | hz
          · refine ⟨?_, fun e => h2 (.inr e), Decidable.not_not.1 h3⟩
            cases hb : nameB z.nm with
            | true => rfl
            | false => exact absurd (.inl hb) h2
          · exact e2 z hz
theorem chkShs_ok : ∀ (l : List Fl) (i : Nat) (a a' : At), chkShs i l a = .on a' → i ≤ 1024 → i + l.length ≤ 1024 ∧ (∀ f ∈ l, chkFls 0 [f] = 0) ∧ a'.it = a.it
  | [], i, a, a', h, hi => by
    rw [chkShs] at h; injection h with h; subst h
    exact ⟨by simpa using hi, fun r hr => (by cases hr), rfl⟩
  | f :: l, i, a, a', h, hi => by
    rw [chkShs] at h
    split at h
    · cases h
    · split at h
      · cases h
      · next h3 =>
        obtain ⟨e1, e2, e3⟩ := chkShs_ok l (i + 1) _ a' h (by omega)
        refine ⟨by simp only [List.length_cons]; omega, fun z hz => ?_, e3⟩
        rcases List.mem_cons.1 hz with rfl | hz
        · exact Decidable.not_not.1 h3
        · exact e2 z hz
theorem chkFus_ok : ∀ (l : List Fu) (i : Nat) (a a' : At), chkFus i l a = .on a' → i ≤ 32 → a.it ≤ 1024 → i + l.length ≤ 32 ∧ (∀ f ∈ l, nameB f.nm = true ∧ chkFls 0 f.ps = 0 ∧ (noTy f.t = true ∨ tyForm f.t = 0) ∧ ∃ a a', chkSts f.body 1 a = .on a') ∧ a'.it = a.it + (l.map fun f => stCounts f.body).sum ∧ a'.it ≤ 1024
  | [], i, a, a', h, hi, ha => by
    rw [chkFus] at h; injection h with h; subst h
    exact ⟨by simpa using hi, fun r hr => (by cases hr), by simp, ha⟩
  | f :: l, i, a, a', h, hi, ha => by
    rw [chkFus] at h
    split at h
    · cases h
    · split at h
      · cases h
      · next h1 =>
        split at h
        · cases h
        · next h2 =>
          split at h
          · cases h
          · next h3 =>
            cases hb : chkSts f.body 1 ⟨a.p + 1, a.it⟩ with
            | bad p e => rw [hb] at h; cases h
            | on a1 =>
              rw [hb] at h
              dsimp only at h
              have e0 := chkSts_it f.body 1 _ a1 hb ha
              dsimp only at e0
              obtain ⟨e1, e2, e3, e4⟩ := chkFus_ok l (i + 1) a1 a' h (by omega) e0.2
              refine ⟨by simp only [List.length_cons]; omega, fun z hz => ?_, by simp only [List.map_cons, List.sum_cons]; omega, e4⟩
              rcases List.mem_cons.1 hz with rfl | hz
              · refine ⟨?_, Decidable.not_not.1 h2, ?_, _, a1, hb⟩
                · cases hq : nameB z.nm with
                  | true => rfl
                  | false => exact absurd hq h1
                · cases hq : noTy z.t with
                  | true => exact .inl rfl
                  | false => exact .inr (Decidable.not_not.1 fun hh => h3 ⟨hq, hh⟩)
              · exact e2 z hz
theorem chkThs_ok : ∀ (l : List Th) (i : Nat) (a a' : At), chkThs i l a = .on a' → i ≤ 4 → a.it ≤ 1024 → i + l.length ≤ 4 ∧ (∀ t ∈ l, ∃ a a', chkSts t.l 1 a = .on a') ∧ a'.it = a.it + (l.map fun t => stCounts t.l).sum ∧ a'.it ≤ 1024
  | [], i, a, a', h, hi, ha => by
    rw [chkThs] at h; injection h with h; subst h
    exact ⟨by simpa using hi, fun r hr => (by cases hr), by simp, ha⟩
  | t :: l, i, a, a', h, hi, ha => by
    rw [chkThs] at h
    split at h
    · cases h
    · cases hb : chkSts t.l 1 ⟨a.p + 1, a.it⟩ with
      | bad p e => rw [hb] at h; cases h
      | on a1 =>
        rw [hb] at h
        dsimp only at h
        have e0 := chkSts_it t.l 1 _ a1 hb ha
        dsimp only at e0
        obtain ⟨e1, e2, e3, e4⟩ := chkThs_ok l (i + 1) a1 a' h (by omega) e0.2
        refine ⟨by simp only [List.length_cons]; omega, fun z hz => ?_, by simp only [List.map_cons, List.sum_cons]; omega, e4⟩
        rcases List.mem_cons.1 hz with rfl | hz
        · exact ⟨_, a1, hb⟩
        · exact e2 z hz
theorem bad_ne : ∀ (c : Chk), True := fun _ => trivial
theorem chkPr_on {p : Pr} {a : At} (h : chkPr p = .on a) : PrGood p := by
  unfold chkPr at h
  cases h1 : chkRes 0 p.rs ⟨-1, 0⟩ with
  | bad q e => rw [h1] at h; cases h
  | on a1 =>
    rw [h1] at h
    change (((chkShs 0 p.ss a1).bind (chkFus 0 p.fs)).bind (chkThs 0 p.ts)) = _ at h
    cases h2 : chkShs 0 p.ss a1 with
    | bad q e => rw [h2] at h; cases h
    | on a2 =>
      rw [h2] at h
      change ((chkFus 0 p.fs a2).bind (chkThs 0 p.ts)) = _ at h
      cases h3 : chkFus 0 p.fs a2 with
      | bad q e => rw [h3] at h; cases h
      | on a3 =>
        rw [h3] at h
        change chkThs 0 p.ts a3 = _ at h
        obtain ⟨b1, b2, b3⟩ := chkRes_ok p.rs 0 _ a1 h1 (by omega)
        obtain ⟨c1, c2, c3⟩ := chkShs_ok p.ss 0 a1 a2 h2 (by omega)
        dsimp only at b3
        obtain ⟨d1, d2, d3, d4⟩ := chkFus_ok p.fs 0 a2 a3 h3 (by omega) (by omega)
        obtain ⟨e1, e2, e3, e4⟩ := chkThs_ok p.ts 0 a3 a h (by omega) d4
        exact ⟨⟨by omega, b2⟩, ⟨by omega, c2⟩, ⟨by omega, d2⟩, ⟨by omega, e2⟩, by unfold itemsOf; omega⟩
end Go.Proofs.YtblnmlbkgdncnaaDoor
