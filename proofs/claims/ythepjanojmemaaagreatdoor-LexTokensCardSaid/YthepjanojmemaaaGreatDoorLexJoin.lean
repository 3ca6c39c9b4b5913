/-
  Texts that are joined, tokens that are spelled, plain. No program in sight.
-/
import Derived.Test.YthepjanojmemaaaGreatDoorLexInv
set_option linter.unusedVariables false
set_option linter.unusedSimpArgs false
namespace Go.Proofs.YthepjanojmemaaaGreatDoor

theorem scans_feed {r : List UInt8} {line : Nat} {acc : List Tok} {res : LexR} : Scans (10 :: r) line acc res ↔ Scans r (line + 1) acc res := Iff.rfl
theorem scans_space {c : UInt8} {r : List UInt8} {line : Nat} {acc : List Tok} {res : LexR} (h1 : c ≠ 10) (h2 : spaceB c = true) : Scans (c :: r) line acc res ↔ Scans r line acc res := by
  unfold Scans
  simp only [scan, List.length_cons, if_neg h1, if_pos h2]
theorem scans_remark {r : List UInt8} {line : Nat} {acc : List Tok} {res : LexR} : Scans (47 :: 47 :: r) line acc res ↔ Scans (r.dropWhile (· != 10)) line acc res :=
  ⟨Scans.remark, fun h => by
    have h2 := h.at (f := (47 :: r).length + 1) (Nat.lt_of_le_of_lt (dropWhile_le r) (by simp; omega))
    exact h2⟩
theorem scans_tok {c : UInt8} {r : List UInt8} {line : Nat} {acc : List Tok} {res : LexR} {k n : Int} {t : List UInt8} (h1 : c ≠ 10) (h2 : spaceB c = false) (h3 : ¬ (c = 47 ∧ r.head? = some 47)) (ht : tokAt (c :: r) = some (k, t, n)) :
    Scans (c :: r) line acc res ↔ Scans ((c :: r).drop t.length) line (acc ++ [⟨k, t, n, line⟩]) res := by
  refine ⟨fun h => by have := h.tok h1 h2 h3; rw [ht] at this; exact this, fun h => ?_⟩
  obtain ⟨p1, p2, _⟩ := tokAt_pos ht
  have h4 := h.at (f := r.length + 1) (by rw [List.length_drop, List.length_cons]; omega)
  unfold Scans
  simp only [scan, List.length_cons, if_neg h1, h2, Bool.false_eq_true, if_false, if_neg h3, ht]
  exact h4
theorem scans_none {c : UInt8} {r : List UInt8} {line : Nat} {acc : List Tok} {res : LexR} (h1 : c ≠ 10) (h2 : spaceB c = false) (h3 : ¬ (c = 47 ∧ r.head? = some 47)) (ht : tokAt (c :: r) = none) :
    Scans (c :: r) line acc res ↔ res = .bad line := by
  unfold Scans
  simp only [scan, List.length_cons, if_neg h1, h2, Bool.false_eq_true, if_false, if_neg h3, ht]
  exact eq_comm
theorem scans_fun {r : List UInt8} {line : Nat} {acc : List Tok} {x y : LexR} (h : Scans r line acc x) (h' : Scans r line acc y) : x = y := h.symm.trans h'

theorem takeWhile_join {p : UInt8 → Bool} (d : UInt8) (hp : p d = false) (b : List UInt8) : ∀ l : List UInt8, (l ++ d :: b).takeWhile p = l.takeWhile p
  | [] => by rw [List.nil_append, List.takeWhile_cons_of_neg (by simp [hp])]; rfl
  | c :: l => by
    by_cases h : p c = true
    · rw [List.cons_append, List.takeWhile_cons_of_pos h, List.takeWhile_cons_of_pos h, takeWhile_join d hp b l]
    · rw [List.cons_append, List.takeWhile_cons_of_neg h, List.takeWhile_cons_of_neg h]
theorem dropWhile_join (b : List UInt8) : ∀ l : List UInt8, (l ++ 10 :: b).dropWhile (· != 10) = l.dropWhile (· != 10) ++ 10 :: b
  | [] => by rw [List.nil_append, List.dropWhile_cons_of_neg (by simp)]; rfl
  | c :: l => by
    by_cases h : (c != 10) = true
    · simp only [List.cons_append, List.dropWhile_cons, h, if_true, dropWhile_join b l]
    · simp only [List.cons_append, List.dropWhile_cons, h, if_false, Bool.false_eq_true]

theorem pair_join (c : UInt8) (r b : List UInt8) : signPairs.contains ((c :: r ++ 10 :: b).take 2) = signPairs.contains ((c :: r).take 2) ∧ (signPairs.contains ((c :: r).take 2) = true → (c :: r ++ 10 :: b).take 2 = (c :: r).take 2) := by
  cases r with
  | nil =>
    constructor
    · simp [signPairs]
    · intro h; simp [signPairs] at h
  | cons d r => exact ⟨rfl, fun _ => rfl⟩
theorem tokAt_join (c : UInt8) (r b : List UInt8) : tokAt (c :: r ++ 10 :: b) = tokAt (c :: r) := by
  have h1 := takeWhile_join (p := partB) 10 (by decide) b (c :: r)
  have h2 := takeWhile_join (p := digB) 10 (by decide) b (c :: r)
  obtain ⟨h3, h4⟩ := pair_join c r b
  rw [List.cons_append] at h1 h2 h3 h4 ⊢
  rw [tokAt_cons, tokAt_cons, h1, h2, h3]
  by_cases hp : signPairs.contains ((c :: r).take 2) = true
  · rw [h4 hp]
  · rw [if_neg hp, if_neg hp]

def feeds (l : List UInt8) : Nat := l.count 10
theorem feeds_take {l t : List UInt8} (h : t = l.take t.length) (h10 : 10 ∉ t) : feeds (l.drop t.length) = feeds l := by
  have h1 : l = t ++ l.drop t.length := by
    have := (List.take_append_drop t.length l).symm
    rw [← h] at this
    exact this
  have h2 : feeds l = feeds (t ++ l.drop t.length) := congrArg feeds h1
  rw [h2]
  unfold feeds
  rw [List.count_append, List.count_eq_zero_of_not_mem h10]; omega
theorem feeds_dropWhile : ∀ l : List UInt8, feeds (l.dropWhile (· != 10)) = feeds l
  | [] => rfl
  | c :: l => by
    by_cases h : c = 10
    · subst h; rw [List.dropWhile_cons_of_neg (by simp)]
    · rw [List.dropWhile_cons_of_pos (by simpa using h), feeds_dropWhile l]
      unfold feeds
      rw [List.count_cons_of_ne (by simpa using fun e => h e)]

theorem not_mem_all {p : UInt8 → Bool} {l : List UInt8} {d : UInt8} (hp : p d = false) (h : l.all p = true) : d ∉ l := fun hm => by
  have := List.all_eq_true.1 h d hm
  rw [hp] at this; cases this

theorem takeWhile_self {p : UInt8 → Bool} : ∀ l : List UInt8, l.all p = true → l.takeWhile p = l
  | [], _ => rfl
  | c :: l, h => by
    rw [List.all_cons, Bool.and_eq_true] at h
    rw [List.takeWhile_cons_of_pos h.1, takeWhile_self l h.2]

/-- what a token is by itself -/
structure TokOk (t : Tok) : Prop where
  again : ∀ x, tokAt (t.text ++ 32 :: x) = some (t.kd, t.text, t.n)
  head : ∃ c r, t.text = c :: r ∧ c ≠ 10 ∧ spaceB c = false ∧ ∀ x, ¬ (c = 47 ∧ (r ++ 32 :: x).head? = some 47)
  feed : 10 ∉ t.text
  name : decide (t.kd = 1) = nameB t.text
  word : decide (t.kd = 2) = wordB t.text
  num : -9223372036854775808 ≤ t.n ∧ t.n ≤ 9223372036854775807
  kind : 0 ≤ t.kd ∧ t.kd ≤ 4

theorem not_word_dig {c : UInt8} {r : List UInt8} (h : lowB c = false) : wordB (c :: r) = false := by
  cases hb : wordB (c :: r)
  · rfl
  · have hm : c :: r ∈ wordList := by simpa [wordB] using hb
    have key : wordList.all (fun x => match x with | [] => false | c :: _ => lowB c) = true := by decide +kernel
    have := List.all_eq_true.1 key _ hm
    simp only [h] at this
    cases this
theorem not_name_low {c : UInt8} {r : List UInt8} (h : lowB c = false) : nameB (c :: r) = false := by
  have h1 : (decide (97 ≤ c.toNat) && decide (c.toNat ≤ 122)) = false := h
  have h2 : nameB (c :: r) = (decide ((c :: r).length ≤ 16) && decide (97 ≤ c.toNat) && decide (c.toNat ≤ 122) && !wordB (c :: r) && (c :: r).all partB) := rfl
  rw [h2, Bool.and_assoc (decide ((c :: r).length ≤ 16)), h1]; simp
theorem w63_bounds (n : Nat) (h : n ≤ 9223372036854775808) : -9223372036854775808 ≤ w63 n ∧ w63 n ≤ 9223372036854775807 := by
  unfold w63; split <;> omega

theorem pair_no : ∀ x ∈ signPairs, nameB x = false ∧ wordB x = false := by decide +kernel
theorem one_no : ∀ c ∈ signOnes, nameB [c] = false ∧ wordB [c] = false := by decide +kernel
theorem tokOk_of {l : List UInt8} {k n : Int} {t : List UInt8} (line : Nat) (h : tokAt l = some (k, t, n)) : TokOk ⟨k, t, n, line⟩ := by
  cases l with
  | nil => cases h
  | cons c r =>
    have h0 := h
    simp only [tokAt] at h
    split at h
    · rename_i hl
      obtain ⟨f1, f2, f3, f4⟩ := low_facts hl
      have hall := takeWhile_all partB (c :: r)
      have hcons : ∃ r', (c :: r).takeWhile partB = c :: r' := ⟨_, List.takeWhile_cons_of_pos f4⟩
      generalize (c :: r).takeWhile partB = u at *
      obtain ⟨r', rfl⟩ := hcons
      have htw : ∀ x, (c :: r' ++ 32 :: x).takeWhile partB = c :: r' := fun x => by
        rw [takeWhile_join 32 (by decide)]
        exact takeWhile_self _ hall
      have hagain : ∀ x, tokAt (c :: r' ++ 32 :: x) = if wordB (c :: r') = true then some (2, c :: r', 0) else if (c :: r').length ≤ 16 then some (1, c :: r', 0) else none := fun x => by
        have := htw x
        rw [List.cons_append] at this ⊢
        rw [tokAt_cons, if_pos hl, this]
      have hc' : 97 ≤ c.toNat ∧ c.toNat ≤ 122 := by simpa [lowB] using hl
      have hnm : nameB (c :: r') = (decide ((c :: r').length ≤ 16) && !wordB (c :: r')) := by
        unfold nameB
        rw [hall]
        simp [hc'.1, hc'.2]
      have hhead : ∃ c' r'', c :: r' = c' :: r'' ∧ c' ≠ 10 ∧ spaceB c' = false ∧ ∀ x, ¬ (c' = 47 ∧ (r'' ++ 32 :: x).head? = some 47) := ⟨c, r', rfl, f1, f2, fun _ h => f3 h.1⟩
      have hfeed : 10 ∉ c :: r' := not_mem_all (by decide) hall
      split at h
      · rename_i hw
        injection h with h; injection h with h1 h; injection h with h2 h3; subst h1 h2 h3
        exact ⟨fun x => by rw [hagain, if_pos hw], hhead, hfeed, by dsimp only; rw [hnm, hw]; simp, by simp [hw], by simp, by simp⟩
      · rename_i hw
        have hw' : wordB (c :: r') = false := by simpa using hw
        split at h
        · rename_i h16
          injection h with h; injection h with h1 h; injection h with h2 h3; subst h1 h2 h3
          exact ⟨fun x => by rw [hagain, if_neg hw, if_pos h16], hhead, hfeed, by dsimp only; rw [hnm, hw']; simpa using h16, by simp [hw'], by simp, by simp⟩
        · cases h
    · rename_i hl
      have hl' : lowB c = false := by simpa using hl
      split at h
      · rename_i hd
        obtain ⟨f1, f2, f3⟩ := dig_facts hd
        have hall := takeWhile_all digB (c :: r)
        have hcons : ∃ r', (c :: r).takeWhile digB = c :: r' := ⟨_, List.takeWhile_cons_of_pos hd⟩
        generalize (c :: r).takeWhile digB = u at *
        obtain ⟨r', rfl⟩ := hcons
        split at h
        · rename_i hv
          injection h with h; injection h with h1 h; injection h with h2 h3; subst h1 h2 h3
          have hb := (digitsV_ok (l := c :: r') (most := 9223372036854775808) (n := (digitsV (c :: r') 9223372036854775808).1) (by decide) (by rw [← hv])).2
          refine ⟨fun x => ?_, ⟨c, r', rfl, f1, f2, fun _ h => f3 h.1⟩, not_mem_all (by decide) hall, by simp [not_name_low hl'], by simp [not_word_dig hl'], w63_bounds _ hb, by simp⟩
          have htw : (c :: r' ++ 32 :: x).takeWhile digB = c :: r' := by
            rw [takeWhile_join 32 (by decide)]
            exact takeWhile_self _ hall
          dsimp only
          rw [List.cons_append] at htw ⊢
          rw [tokAt_cons, if_neg hl, if_pos hd, htw, if_pos hv]
        · cases h
      · split at h
        · rename_i hp
          injection h with h; injection h with h1 h; injection h with h2 h3; subst h1 h2 h3
          have hm : (c :: r).take 2 ∈ signPairs := by simpa using hp
          have hno := pair_no _ hm
          simp only [signPairs, List.mem_cons, List.not_mem_nil, or_false] at hm
          rcases hm with h | h | h | h | h | h <;> rw [h] at hno ⊢ <;>
            exact ⟨fun x => rfl, ⟨_, _, rfl, by decide, by decide, fun x h => absurd h.1 (by decide)⟩, by simp, by simp [hno.1], by simp [hno.2], by simp, by simp⟩
        · split at h
          · rename_i ho
            injection h with h; injection h with h1 h; injection h with h2 h3; subst h1 h2 h3
            have hm : c ∈ signOnes := by simpa using ho
            have hno := one_no _ hm
            clear h0 ho hl hl'
            simp only [signOnes, List.mem_cons, List.not_mem_nil, or_false] at hm
            rcases hm with rfl | rfl | rfl | rfl | rfl | rfl | rfl | rfl | rfl | rfl | rfl | rfl | rfl | rfl | rfl | rfl | rfl | rfl <;>
              exact ⟨fun x => rfl, ⟨_, _, rfl, by decide, by decide, fun x h => absurd h.2 (by simp)⟩, by simp, by simp [hno.1], by simp [hno.2], by simp, by simp⟩
          · cases h

/-- how much room tokens take when they are spelled -/
def roomOf (l : List Tok) : Nat := (l.map fun t => t.text.length + 1).sum
theorem roomOf_append (a b : List Tok) : roomOf (a ++ b) = roomOf a + roomOf b := by simp [roomOf]

/-- what is so of all tokens of a text -/
theorem scan_all : ∀ (f : Nat) (r : List UInt8) (line : Nat) (acc l : List Tok), r.length < f → scan f r line acc = .ok l → (∀ t ∈ acc, TokOk t) →
    (∀ t ∈ l, TokOk t) ∧ roomOf l ≤ roomOf acc + 2 * r.length ∧ l.length ≤ acc.length + r.length
  | 0, _, _, _, _, h, _, _ => absurd h (by omega)
  | f + 1, [], line, acc, l, _, h, ha => by
    injection h with h; subst h; exact ⟨ha, by simp, by simp⟩
  | f + 1, c :: r, line, acc, l, hf, h, ha => by
    have hf' : r.length < f := by simp at hf; omega
    simp only [scan] at h
    rw [List.length_cons]
    split at h
    · have := scan_all f r _ acc l hf' h ha
      exact ⟨this.1, by omega, by omega⟩
    · split at h
      · have := scan_all f r _ acc l hf' h ha
        exact ⟨this.1, by omega, by omega⟩
      · split at h
        · have hd : (r.dropWhile (· != 10)).length ≤ r.length := dropWhile_le r
          have := scan_all f _ _ acc l (Nat.lt_of_le_of_lt hd hf') h ha
          exact ⟨this.1, by omega, by omega⟩
        · split at h
          · cases h
          · rename_i k t n ht
            obtain ⟨p1, p2, _⟩ := tokAt_pos ht
            have hd : ((c :: r).drop t.length).length + t.length = r.length + 1 := by rw [List.length_drop]; simp at p2 ⊢; omega
            have := scan_all f _ _ _ l (by omega) h (fun x hx => by
              rcases List.mem_append.1 hx with hx | hx
              · exact ha x hx
              · rw [List.mem_singleton.1 hx]; exact tokOk_of line ht)
            rw [roomOf_append, List.length_append] at this
            have e : roomOf [⟨k, t, n, line⟩] = t.length + 1 := rfl
            rw [e] at this
            refine ⟨this.1, by omega, ?_⟩
            have := this.2.2
            simp only [List.length_singleton] at this
            omega

/-- lines of tokens and of faults lie in the text -/
theorem scan_lines : ∀ (f : Nat) (r : List UInt8) (line : Nat) (acc : List Tok), r.length < f → (∀ t ∈ acc, t.line ≤ line) →
    (match scan f r line acc with | .bad n => n ≤ line + feeds r | .ok l => ∀ t ∈ l, t.line ≤ line + feeds r)
  | 0, _, _, _, h, _ => absurd h (by omega)
  | f + 1, [], line, acc, _, ha => ha
  | f + 1, c :: r, line, acc, hf, ha => by
    have hf' : r.length < f := by simp at hf; omega
    simp only [scan]
    by_cases h10 : c = 10
    · subst h10
      rw [if_pos rfl]
      have := scan_lines f r (line + 1) acc hf' (fun t ht => Nat.le_succ_of_le (ha t ht))
      have e : feeds (10 :: r) = feeds r + 1 := by unfold feeds; rw [List.count_cons_self]
      rw [e, show line + (feeds r + 1) = line + 1 + feeds r by omega]
      exact this
    · have e : feeds (c :: r) = feeds r := by unfold feeds; rw [List.count_cons_of_ne (by simpa using fun e => h10 e)]
      rw [if_neg h10, e]
      by_cases hs : spaceB c = true
      · rw [if_pos hs]; exact scan_lines f r line acc hf' ha
      · rw [if_neg hs]
        by_cases hr : c = 47 ∧ r.head? = some 47
        · rw [if_pos hr]
          have := scan_lines f (r.dropWhile (· != 10)) line acc (Nat.lt_of_le_of_lt (dropWhile_le r) hf') ha
          rw [feeds_dropWhile] at this
          exact this
        · rw [if_neg hr]
          cases ht : tokAt (c :: r) with
          | none => exact Nat.le_add_right _ _
          | some x =>
            obtain ⟨k, t, n⟩ := x
            obtain ⟨p1, p2, p3⟩ := tokAt_pos ht
            have hfd := feeds_take p3 (tokOk_of line ht).feed
            have := scan_lines f ((c :: r).drop t.length) line (acc ++ [⟨k, t, n, line⟩]) (by rw [List.length_drop, List.length_cons]; omega) (fun x hx => by
              rcases List.mem_append.1 hx with hx | hx
              · exact ha x hx
              · rw [List.mem_singleton.1 hx]; exact Nat.le_refl _)
            rw [hfd, e] at this
            exact this

/-- two texts with a line feed between -/
theorem scan_join : ∀ (f : Nat) (a : List UInt8) (line : Nat) (acc : List Tok) (b : List UInt8), a.length < f →
    match scan f a line acc with
    | .bad n => Scans (a ++ 10 :: b) line acc (.bad n)
    | .ok l => ∀ res, Scans b (line + feeds a + 1) l res → Scans (a ++ 10 :: b) line acc res
  | 0, _, _, _, _, h => absurd h (by omega)
  | f + 1, [], line, acc, b, _ => fun res h => scans_feed.2 h
  | f + 1, c :: r, line, acc, b, hf => by
    have hf' : r.length < f := by simp at hf; omega
    simp only [scan, List.cons_append]
    by_cases h10 : c = 10
    · subst h10
      rw [if_pos rfl]
      have := scan_join f r (line + 1) acc b hf'
      have e : feeds (10 :: r) = feeds r + 1 := by unfold feeds; rw [List.count_cons_self]
      rw [e, show line + (feeds r + 1) + 1 = line + 1 + feeds r + 1 by omega]
      simp only [scans_feed]
      exact this
    · have e : feeds (c :: r) = feeds r := by unfold feeds; rw [List.count_cons_of_ne (by simpa using fun e => h10 e)]
      rw [if_neg h10, e]
      by_cases hs : spaceB c = true
      · rw [if_pos hs]
        simp only [scans_space h10 hs]
        exact scan_join f r line acc b hf'
      · rw [if_neg hs]
        have hs' : spaceB c = false := by simpa using hs
        by_cases hr : c = 47 ∧ r.head? = some 47
        · rw [if_pos hr]
          obtain ⟨rfl, hr2⟩ := hr
          cases r with
          | nil => cases hr2
          | cons d r =>
            injection hr2 with hr2
            subst hr2
            have := scan_join f ((47 :: r).dropWhile (· != 10)) line acc b (Nat.lt_of_le_of_lt (dropWhile_le _) hf')
            rw [feeds_dropWhile] at this
            have e2 : ((47 :: r).dropWhile (· != 10)) = r.dropWhile (· != 10) := rfl
            rw [e2] at this
            rw [← dropWhile_join] at this
            simp only [List.cons_append, scans_remark]
            rw [e2]
            exact this
        · rw [if_neg hr]
          have hr' : ¬ (c = 47 ∧ (r ++ 10 :: b).head? = some 47) := fun h => hr ⟨h.1, by
            cases r with
            | nil => have := h.2; simp at this
            | cons d r => exact h.2⟩
          have hj := tokAt_join c r b
          rw [List.cons_append] at hj
          cases ht : tokAt (c :: r) with
          | none =>
            rw [ht] at hj
            exact (scans_none h10 hs' hr' hj).2 rfl
          | some x =>
            obtain ⟨k, t, n⟩ := x
            rw [ht] at hj
            obtain ⟨p1, p2, p3⟩ := tokAt_pos ht
            have hfd := feeds_take p3 (tokOk_of line ht).feed
            have := scan_join f ((c :: r).drop t.length) line (acc ++ [⟨k, t, n, line⟩]) b (by rw [List.length_drop, List.length_cons]; omega)
            rw [hfd, e, ← List.drop_append_of_le_length p2, List.cons_append] at this
            simp only [scans_tok h10 hs' hr' hj]
            exact this

/-- tokens that are spelled, a blank behind each -/
def spell (l : List Tok) : List UInt8 := l.flatMap fun t => t.text ++ [32]
theorem spell_scans : ∀ (l acc : List Tok), (∀ t ∈ l, TokOk t) → Scans (spell l) 0 acc (.ok (acc ++ l.map fun t => { t with line := 0 }))
  | [], acc, _ => by show Scans [] 0 acc (.ok (acc ++ [])); rw [List.append_nil]; rfl
  | t :: l, acc, h => by
    have ht := h t (by simp)
    obtain ⟨c, r, hc, h1, h2, h3⟩ := ht.head
    have hag := ht.again (spell l)
    have e : spell (t :: l) = t.text ++ 32 :: spell l := by unfold spell; simp
    rw [e, hc, List.cons_append]
    rw [hc, List.cons_append] at hag
    rw [scans_tok h1 h2 (h3 _) hag]
    rw [← List.cons_append, List.drop_left, scans_space (by decide) (by decide)]
    have := spell_scans l (acc ++ [⟨t.kd, c :: r, t.n, 0⟩]) (fun x hx => h x (by simp [hx]))
    rw [List.map_cons]
    rw [List.append_assoc] at this
    rw [show ({ t with line := 0 } : Tok) = ⟨t.kd, c :: r, t.n, 0⟩ by rw [← hc]]
    exact this

/-- the same text further down -/
def LexR.later (n : Nat) : LexR → LexR
  | .bad k => .bad (k + n)
  | .ok l => .ok (l.map fun t => { t with line := t.line + n })
theorem scan_later (n : Nat) : ∀ (f : Nat) (r : List UInt8) (line : Nat) (acc : List Tok), scan f r (line + n) (acc.map fun t => { t with line := t.line + n }) = (scan f r line acc).later n
  | 0, _, _, _ => rfl
  | _ + 1, [], _, _ => rfl
  | f + 1, c :: r, line, acc => by
    simp only [scan]
    rw [show line + n + 1 = line + 1 + n by omega, scan_later n f r (line + 1) acc, scan_later n f r line acc, scan_later n f _ line acc]
    cases ht : tokAt (c :: r) with
    | none => (repeat' split) <;> first | rfl | contradiction
    | some x =>
      obtain ⟨k, t, m⟩ := x
      have := scan_later n f ((c :: r).drop t.length) line (acc ++ [(⟨k, t, m, line⟩ : Tok)])
      rw [List.map_append] at this
      dsimp only
      rw [show (acc.map fun t => ({ t with line := t.line + n } : Tok)) ++ [(⟨k, t, m, line + n⟩ : Tok)] = (acc.map fun t => ({ t with line := t.line + n } : Tok)) ++ List.map (fun t => ({ t with line := t.line + n } : Tok)) [(⟨k, t, m, line⟩ : Tok)] from rfl, this]
      (repeat' split) <;> rfl
theorem scan_acc (pre : List Tok) : ∀ (f : Nat) (r : List UInt8) (line : Nat) (acc : List Tok), scan f r line (pre ++ acc) = match scan f r line acc with | .bad n => .bad n | .ok l => .ok (pre ++ l)
  | 0, _, _, _ => rfl
  | _ + 1, [], _, _ => rfl
  | f + 1, c :: r, line, acc => by
    simp only [scan]
    rw [scan_acc pre f r (line + 1) acc, scan_acc pre f r line acc, scan_acc pre f _ line acc]
    cases ht : tokAt (c :: r) with
    | none => (repeat' split) <;> first | rfl | contradiction | simp_all
    | some x =>
      obtain ⟨k, t, m⟩ := x
      dsimp only
      rw [List.append_assoc, scan_acc pre f ((c :: r).drop t.length) line (acc ++ [(⟨k, t, m, line⟩ : Tok)])]
      (repeat' split) <;> first | rfl | simp_all
end Go.Proofs.YthepjanojmemaaaGreatDoor
