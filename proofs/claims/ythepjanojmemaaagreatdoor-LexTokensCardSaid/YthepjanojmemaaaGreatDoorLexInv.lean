/-
  What the states of the scanner do, plain; that they give the tokens of the text. No program in sight.
-/
import Derived.Test.YthepjanojmemaaaGreatDoorLexSpec
set_option linter.unusedVariables false
set_option linter.unusedSimpArgs false
namespace Go.Proofs.YthepjanojmemaaaGreatDoor

inductive St | blank | remark | name | number | sign | stop
structure Lx where
  st : St
  at_ : Nat
  line : Nat
  toks : List Tok

/-- how far bytes of a kind go on, from a place -/
def spanTo (p : UInt8 → Bool) (s : List UInt8) (a : Nat) : Nat := a + ((s.drop a).takeWhile p).length
theorem spanTo_step {p : UInt8 → Bool} {s : List UInt8} {a : Nat} (h : a < s.length) (hp : p s[a] = true) : spanTo p s a = spanTo p s (a + 1) := by
  unfold spanTo
  rw [List.drop_eq_getElem_cons h, List.takeWhile_cons_of_pos hp, List.length_cons]; omega
theorem spanTo_stop {p : UInt8 → Bool} {s : List UInt8} {a : Nat} (h : a < s.length) (hp : p s[a] = false) : spanTo p s a = a := by
  unfold spanTo
  rw [List.drop_eq_getElem_cons h, List.takeWhile_cons_of_neg (by simp [hp])]; rfl
theorem spanTo_end {p : UInt8 → Bool} {s : List UInt8} {a : Nat} (h : s.length ≤ a) : spanTo p s a = a := by
  unfold spanTo
  rw [List.drop_of_length_le h]; rfl
theorem spanTo_le {p : UInt8 → Bool} {s : List UInt8} {a : Nat} (h : a ≤ s.length) : a ≤ spanTo p s a ∧ spanTo p s a ≤ s.length := by
  unfold spanTo
  have := (List.takeWhile_prefix p (l := s.drop a)).length_le
  rw [List.length_drop] at this
  omega
theorem spanTo_take (p : UInt8 → Bool) (s : List UInt8) (a : Nat) : (s.drop a).take (spanTo p s a - a) = (s.drop a).takeWhile p := by
  have h1 : spanTo p s a - a = ((s.drop a).takeWhile p).length := by unfold spanTo; omega
  rw [h1]
  exact (List.prefix_iff_eq_take.1 (List.takeWhile_prefix p)).symm

def signF (s : List UInt8) (at_ line : Nat) (toks : List Tok) : Lx :=
  if signPairs.contains ((s.drop at_).take 2) then ⟨.blank, at_ + 2, line, toks ++ [⟨4, (s.drop at_).take 2, 0, line⟩]⟩
  else if signOnes.contains (s.getD at_ 0) then ⟨.blank, at_ + 1, line, toks ++ [⟨4, (s.drop at_).take 1, 0, line⟩]⟩
  else ⟨.stop, at_, line, toks⟩
def remarkF (s : List UInt8) (at_ line : Nat) (toks : List Tok) : Lx :=
  if Lib.indexByte (s.drop at_) 10 < 0 then ⟨.stop, at_, line, toks⟩ else ⟨.blank, at_ + (Lib.indexByte (s.drop at_) 10).toNat, line, toks⟩
def nameF (s : List UInt8) (at_ line : Nat) (toks : List Tok) : Lx :=
  let b := spanTo partB s at_
  let t := (s.drop at_).take (b - at_)
  if wordB t then ⟨.blank, b, line, toks ++ [⟨2, t, 0, line⟩]⟩
  else if nameB t then ⟨.blank, b, line, toks ++ [⟨1, t, 0, line⟩]⟩
  else ⟨.stop, at_, line, toks⟩
def numberF (s : List UInt8) (at_ line : Nat) (toks : List Tok) : Lx :=
  let b := spanTo digB s at_
  let t := (s.drop at_).take (b - at_)
  if (digitsV t 9223372036854775808).2 = true then ⟨.blank, b, line, toks ++ [⟨3, t, w63 (digitsV t 9223372036854775808).1, line⟩]⟩
  else ⟨.stop, at_, line, toks⟩
def slashB (l : List UInt8) : Bool := Lib.hasPrefix l [47, 47]
def blankGo : List UInt8 → Nat → Nat → St × Nat × Nat
  | [], a, n => (.stop, a, n)
  | c :: r, a, n =>
    if c = 10 then blankGo r (a + 1) (n + 1)
    else if spaceB c = true then blankGo r (a + 1) n
    else if c = 47 ∧ slashB (c :: r) = true then (.remark, a, n)
    else if lowB c = true then (.name, a, n)
    else if digB c = true then (.number, a, n)
    else (.sign, a, n)
def blankF (s : List UInt8) (at_ line : Nat) (toks : List Tok) : Lx :=
  ⟨(blankGo (s.drop at_) at_ line).1, (blankGo (s.drop at_) at_ line).2.1, (blankGo (s.drop at_) at_ line).2.2, toks⟩

def stepF (s : List UInt8) (x : Lx) : Lx :=
  match x.st with
  | .blank => blankF s x.at_ x.line x.toks
  | .remark => remarkF s x.at_ x.line x.toks
  | .name => nameF s x.at_ x.line x.toks
  | .number => numberF s x.at_ x.line x.toks
  | .sign => signF s x.at_ x.line x.toks
  | .stop => x

/-- what a stopped scanner answers -/
def finF (s : List UInt8) (x : Lx) : LexR := if x.at_ < s.length ∧ slashB (s.drop x.at_) = false then .bad x.line else .ok x.toks

def rank : St → Nat
  | .blank => 2
  | .stop => 0
  | _ => 1
def meas (s : List UInt8) (x : Lx) : Nat := 3 * (s.length - x.at_) + rank x.st

/-- what a state asks of the rest, whose first byte is c -/
def Asks : St → List UInt8 → Prop
  | .blank, _ => True
  | .stop, _ => True
  | .remark, l => ∃ r, l = 47 :: 47 :: r
  | .name, l => ∃ c r, l = c :: r ∧ lowB c = true
  | .number, l => ∃ c r, l = c :: r ∧ digB c = true ∧ lowB c = false
  | .sign, l => ∃ c r, l = c :: r ∧ c ≠ 10 ∧ spaceB c = false ∧ lowB c = false ∧ digB c = false ∧ ¬ (c = 47 ∧ r.head? = some 47)
structure Inv (s : List UInt8) (res : LexR) (x : Lx) : Prop where
  at_ : x.at_ ≤ s.length
  line : x.line ≤ x.at_
  len : x.toks.length ≤ x.at_
  asks : Asks x.st (s.drop x.at_)
  res : (x.st = .stop → finF s x = res) ∧ (x.st ≠ .stop → Scans (s.drop x.at_) x.line x.toks res)

theorem slash_iff (c : UInt8) (r : List UInt8) : slashB (c :: r) = true ↔ c = 47 ∧ r.head? = some 47 := by
  unfold slashB Lib.hasPrefix
  cases r with
  | nil => simp [List.isPrefixOf]
  | cons d r =>
    rw [List.isPrefixOf, List.isPrefixOf, List.isPrefixOf]
    simp only [Bool.and_true, Bool.and_eq_true, beq_iff_eq, List.head?_cons, Option.some.injEq]
    exact ⟨fun h => ⟨h.1.symm, h.2.symm⟩, fun h => ⟨h.1.symm, h.2.symm⟩⟩

theorem blankGo_spec (s : List UInt8) (res : LexR) (toks : List Tok) : ∀ (l : List UInt8) (a n : Nat), s.drop a = l → a ≤ s.length → n ≤ a → toks.length ≤ a → Scans l n toks res →
    Inv s res ⟨(blankGo l a n).1, (blankGo l a n).2.1, (blankGo l a n).2.2, toks⟩ ∧ a ≤ (blankGo l a n).2.1 ∧ (blankGo l a n).1 ≠ .blank
  | [], a, n, hd, ha, hn, ht, hS => by
    have hs := hS.ends
    have : s.length ≤ a := by simpa using hd
    exact ⟨⟨ha, hn, ht, trivial, fun _ => by unfold finF; rw [if_neg (by show ¬ (a < s.length ∧ _); omega)]; exact hs.symm, fun h => absurd rfl h⟩, Nat.le_refl _, fun h => by cases h⟩
  | c :: r, a, n, hd, ha, hn, ht, hS => by
    have hlt : a < s.length := by
      rcases Nat.lt_or_ge a s.length with h | h
      · exact h
      · rw [List.drop_of_length_le h] at hd; cases hd
    have hd' : s.drop (a + 1) = r := by rw [← List.drop_drop, hd]; rfl
    unfold blankGo
    by_cases h10 : c = 10
    · rw [if_pos h10]
      subst h10
      have := blankGo_spec s res toks r (a + 1) (n + 1) hd' hlt (by omega) (by omega) hS.feed
      exact ⟨this.1, by omega, this.2.2⟩
    · rw [if_neg h10]
      by_cases hsp : spaceB c = true
      · rw [if_pos hsp]
        have := blankGo_spec s res toks r (a + 1) n hd' hlt (by omega) (by omega) (hS.space h10 hsp)
        exact ⟨this.1, by omega, this.2.2⟩
      · rw [if_neg hsp]
        have hsp' : spaceB c = false := by simpa using hsp
        by_cases hsl : c = 47 ∧ slashB (c :: r) = true
        · rw [if_pos hsl]
          obtain ⟨h1, h2⟩ := (slash_iff c r).1 hsl.2
          refine ⟨⟨ha, hn, ht, ?_, (fun h => by cases h), fun _ => hd ▸ hS⟩, Nat.le_refl _, fun h => by cases h⟩
          subst h1
          cases r with
          | nil => cases h2
          | cons d r =>
            injection h2 with h2
            subst h2
            exact ⟨r, hd⟩
        · rw [if_neg hsl]
          have hsl' : ¬ (c = 47 ∧ r.head? = some 47) := fun h => hsl ⟨h.1, (slash_iff c r).2 h⟩
          by_cases hlo : lowB c = true
          · rw [if_pos hlo]
            exact ⟨⟨ha, hn, ht, ⟨c, r, hd, hlo⟩, (fun h => by cases h), fun _ => hd ▸ hS⟩, Nat.le_refl _, fun h => by cases h⟩
          · rw [if_neg hlo]
            have hlo' : lowB c = false := by simpa using hlo
            by_cases hdi : digB c = true
            · rw [if_pos hdi]
              exact ⟨⟨ha, hn, ht, ⟨c, r, hd, hdi, hlo'⟩, (fun h => by cases h), fun _ => hd ▸ hS⟩, Nat.le_refl _, fun h => by cases h⟩
            · rw [if_neg hdi]
              exact ⟨⟨ha, hn, ht, ⟨c, r, hd, h10, hsp', hlo', by simpa using hdi, hsl'⟩, (fun h => by cases h), fun _ => hd ▸ hS⟩, Nat.le_refl _, fun h => by cases h⟩

theorem indexByte_drop : ∀ (l : List UInt8), (Lib.indexByte l 10 = -1 ∧ l.dropWhile (· != 10) = []) ∨ (0 ≤ Lib.indexByte l 10 ∧ (Lib.indexByte l 10).toNat < l.length ∧ l.drop (Lib.indexByte l 10).toNat = l.dropWhile (· != 10))
  | [] => Or.inl ⟨rfl, rfl⟩
  | b :: l => by
    unfold Lib.indexByte
    by_cases hb : b = 10
    · subst hb
      right
      simp
    · have hb' : (b == 10) = false := by simpa using hb
      rw [if_neg (by simpa using hb), List.dropWhile_cons_of_pos (by simpa using hb)]
      rcases indexByte_drop l with ⟨h1, h2⟩ | ⟨h1, h2, h3⟩
      · left
        rw [h1]
        exact ⟨rfl, h2⟩
      · right
        rw [if_neg (by simpa using (by omega : Lib.indexByte l 10 ≠ -1))]
        refine ⟨by omega, ?_, ?_⟩
        · rw [List.length_cons]; omega
        · rw [show (Lib.indexByte l 10 + 1).toNat = (Lib.indexByte l 10).toNat + 1 by omega, List.drop_succ_cons, h3]

theorem low_facts {c : UInt8} (h : lowB c = true) : c ≠ 10 ∧ spaceB c = false ∧ c ≠ 47 ∧ partB c = true := by
  have h1 : 97 ≤ c.toNat ∧ c.toNat ≤ 122 := by simpa [lowB] using h
  have k : ∀ d : UInt8, d.toNat < 97 → c ≠ d := fun d hd e => by subst e; omega
  refine ⟨k _ (by decide), ?_, k _ (by decide), by unfold lowB at h; unfold partB; rw [h]; rfl⟩
  simp [spaceB, k 32 (by decide), k 9 (by decide), k 13 (by decide)]
theorem dig_facts {c : UInt8} (h : digB c = true) : c ≠ 10 ∧ spaceB c = false ∧ c ≠ 47 := by
  have h1 : 48 ≤ c.toNat ∧ c.toNat ≤ 57 := by simpa [digB] using h
  have k : ∀ d : UInt8, d.toNat < 48 → c ≠ d := fun d hd e => by subst e; omega
  refine ⟨k _ (by decide), ?_, k _ (by decide)⟩
  simp [spaceB, k 32 (by decide), k 9 (by decide), k 13 (by decide)]

theorem takeWhile_all (p : UInt8 → Bool) : ∀ l : List UInt8, (l.takeWhile p).all p = true
  | [] => rfl
  | c :: l => by
    by_cases h : p c = true
    · rw [List.takeWhile_cons_of_pos h, List.all_cons, h, takeWhile_all p l]; rfl
    · rw [List.takeWhile_cons_of_neg h]; rfl

/-- a token: what is asked of the next state -/
theorem inv_tok {s : List UInt8} {res : LexR} {at_ line : Nat} {toks : List Tok} {k n : Int} {t : List UInt8} (ha : at_ ≤ s.length) (hl : line ≤ at_) (hk : toks.length ≤ at_)
    (ht : tokAt (s.drop at_) = some (k, t, n)) (hS : Scans ((s.drop at_).drop t.length) line (toks ++ [⟨k, t, n, line⟩]) res) {b : Nat} (hb : b = at_ + t.length) :
    Inv s res ⟨.blank, b, line, toks ++ [⟨k, t, n, line⟩]⟩ ∧ at_ < b := by
  obtain ⟨p1, p2, _⟩ := tokAt_pos ht
  rw [List.length_drop] at p2
  subst hb
  refine ⟨⟨by show at_ + t.length ≤ _; omega, by show line ≤ at_ + t.length; omega, by show (toks ++ [_]).length ≤ at_ + t.length; rw [List.length_append]; simp; omega, trivial, (fun h => by cases h), fun _ => ?_⟩, by omega⟩
  rw [List.drop_drop] at hS
  exact hS
theorem inv_stop {s : List UInt8} {res : LexR} {at_ line : Nat} {toks : List Tok} (ha : at_ < s.length) (hl : line ≤ at_) (hk : toks.length ≤ at_) (hn : slashB (s.drop at_) = false) (hr : res = .bad line) :
    Inv s res ⟨.stop, at_, line, toks⟩ :=
  ⟨Nat.le_of_lt ha, hl, hk, trivial, fun _ => by unfold finF; rw [if_pos ⟨ha, hn⟩]; exact hr.symm, fun h => absurd rfl h⟩

theorem drop_lt {s : List UInt8} {a : Nat} {c : UInt8} {r : List UInt8} (h : s.drop a = c :: r) : a < s.length := by
  rcases Nat.lt_or_ge a s.length with h' | h'
  · exact h'
  · rw [List.drop_of_length_le h'] at h; cases h

theorem inv_step {s : List UInt8} {res : LexR} {x : Lx} (h : Inv s res x) (hx : x.st ≠ .stop) : Inv s res (stepF s x) ∧ meas s (stepF s x) < meas s x := by
  obtain ⟨st, at_, line, toks⟩ := x
  obtain ⟨h1, h2, h3, h4, h5⟩ := h
  have hS := h5.2 hx
  clear h5
  dsimp only at *
  cases st with
  | stop => exact absurd rfl hx
  | blank =>
    have := blankGo_spec s res toks _ at_ line rfl h1 h2 h3 hS
    refine ⟨this.1, ?_⟩
    unfold meas stepF blankF
    dsimp only
    have hr : rank (blankGo (s.drop at_) at_ line).1 ≤ 1 := by
      have h6 := this.2.2
      cases h7 : (blankGo (s.drop at_) at_ line).1 <;> first | exact absurd h7 h6 | decide
    have := this.2.1
    show 3 * _ + _ < 3 * _ + 2
    omega
  | remark =>
    obtain ⟨r, hr⟩ := h4
    rw [hr] at hS
    have hR := hS.remark
    have hlt := drop_lt hr
    have hi := indexByte_drop (s.drop at_)
    rw [hr] at hi
    unfold stepF remarkF
    dsimp only
    rw [hr]
    have e1 : (47 :: 47 :: r : List UInt8).dropWhile (· != 10) = r.dropWhile (· != 10) := rfl
    rw [e1] at hi
    rcases hi with ⟨i1, i2⟩ | ⟨i1, i2, i3⟩
    · rw [if_pos (by omega)]
      rw [i2] at hR
      refine ⟨⟨h1, h2, h3, trivial, fun _ => ?_, fun h => absurd rfl h⟩, ?_⟩
      · unfold finF
        dsimp only
        rw [if_neg (by rw [hr, (slash_iff 47 (47 :: r)).2 ⟨rfl, rfl⟩]; simp)]
        exact hR.ends.symm
      · simp only [meas, rank]; omega
    · rw [if_neg (by omega)]
      have hpos : 0 < (Lib.indexByte (47 :: 47 :: r) 10).toNat := by
        rcases Nat.eq_zero_or_pos (Lib.indexByte (47 :: 47 :: r) 10).toNat with h | h
        · rw [h, List.drop_zero] at i3
          have h8 : (r.dropWhile (· != 10)).length ≤ r.length := dropWhile_le r
          rw [← i3] at h8
          simp at h8
          omega
        · exact h
      rw [← hr] at i2
      rw [List.length_drop] at i2
      rw [← hr] at hpos
      rw [← hr] at i3
      rw [← hr]
      refine ⟨⟨by dsimp only; omega, by dsimp only; omega, by dsimp only; omega, trivial, fun h => (by cases h), fun _ => ?_⟩, ?_⟩
      · dsimp only
        rw [← List.drop_drop, i3]
        exact hR
      · simp only [meas, rank]; omega
  | name =>
    obtain ⟨c, r, hr, hc⟩ := h4
    obtain ⟨f1, f2, f3, f4⟩ := low_facts hc
    have hlt := drop_lt hr
    have hns : slashB (s.drop at_) = false := by
      rw [hr]
      cases hb : slashB (c :: r)
      · rfl
      · exact absurd ((slash_iff c r).1 hb).1 f3
    rw [hr] at hS
    have hT := hS.tok f1 f2 (fun h => f3 h.1)
    unfold stepF nameF
    dsimp only
    rw [spanTo_take]
    have hb : spanTo partB s at_ = at_ + ((s.drop at_).takeWhile partB).length := rfl
    rw [hr] at hb ⊢
    generalize ht : (c :: r).takeWhile partB = t at *
    have htk : tokAt (c :: r) = if wordB t = true then some (2, t, 0) else if t.length ≤ 16 then some (1, t, 0) else none := by
      rw [tokAt_cons, if_pos hc, ht]
    have hall : t.all partB = true := by rw [← ht]; exact takeWhile_all _ _
    have htc : ∃ r', t = c :: r' := ⟨_, by rw [← ht, List.takeWhile_cons_of_pos f4]⟩
    have hnm : wordB t = false → nameB t = decide (t.length ≤ 16) := fun hw => by
      clear hS hT ht htk hb
      obtain ⟨r', rfl⟩ := htc
      have hc' : 97 ≤ c.toNat ∧ c.toNat ≤ 122 := by simpa [lowB] using hc
      unfold nameB
      rw [hall, hw]
      simp [hc'.1, hc'.2]
    rw [htk] at hT
    by_cases hw : wordB t = true
    · rw [if_pos hw] at hT ⊢
      have := inv_tok h1 h2 h3 (by rw [hr, htk, if_pos hw]) (by rw [hr]; exact hT) hb
      refine ⟨this.1, ?_⟩
      unfold meas
      show 3 * (s.length - spanTo partB s at_) + 2 < 3 * (s.length - at_) + 1
      have := this.2
      omega
    · rw [if_neg hw] at hT ⊢
      rw [hnm (by simpa using hw)]
      by_cases hl : t.length ≤ 16
      · rw [if_pos hl] at hT
        rw [if_pos (by simpa using hl)]
        have := inv_tok h1 h2 h3 (by rw [hr, htk, if_neg hw, if_pos hl]) (by rw [hr]; exact hT) hb
        refine ⟨this.1, ?_⟩
        unfold meas
        show 3 * (s.length - spanTo partB s at_) + 2 < 3 * (s.length - at_) + 1
        have := this.2
        omega
      · rw [if_neg hl] at hT
        rw [if_neg (by simpa using hl)]
        refine ⟨inv_stop hlt h2 h3 hns hT, ?_⟩
        simp only [meas, rank]; omega
  | number =>
    obtain ⟨c, r, hr, hc, hlo⟩ := h4
    obtain ⟨f1, f2, f3⟩ := dig_facts hc
    have hlt := drop_lt hr
    have hns : slashB (s.drop at_) = false := by
      rw [hr]
      cases hb : slashB (c :: r)
      · rfl
      · exact absurd ((slash_iff c r).1 hb).1 f3
    rw [hr] at hS
    have hT := hS.tok f1 f2 (fun h => f3 h.1)
    unfold stepF numberF
    dsimp only
    rw [spanTo_take]
    have hb : spanTo digB s at_ = at_ + ((s.drop at_).takeWhile digB).length := rfl
    rw [hr] at hb ⊢
    generalize ht : (c :: r).takeWhile digB = t at *
    have htk : tokAt (c :: r) = if (digitsV t 9223372036854775808).2 = true then some (3, t, w63 (digitsV t 9223372036854775808).1) else none := by
      rw [tokAt_cons, if_neg (by simp [hlo]), if_pos hc, ht]
    rw [htk] at hT
    by_cases hw : (digitsV t 9223372036854775808).2 = true
    · rw [if_pos hw] at hT ⊢
      have := inv_tok h1 h2 h3 (by rw [hr, htk, if_pos hw]) (by rw [hr]; exact hT) hb
      refine ⟨this.1, ?_⟩
      unfold meas
      show 3 * (s.length - spanTo digB s at_) + 2 < 3 * (s.length - at_) + 1
      have := this.2
      omega
    · rw [if_neg hw] at hT ⊢
      refine ⟨inv_stop hlt h2 h3 hns hT, ?_⟩
      simp only [meas, rank]; omega
  | sign =>
    obtain ⟨c, r, hr, f1, f2, hlo, hdi, f3⟩ := h4
    have hlt := drop_lt hr
    have hns : slashB (s.drop at_) = false := by
      rw [hr]
      cases hb : slashB (c :: r)
      · rfl
      · exact absurd ((slash_iff c r).1 hb) f3
    rw [hr] at hS
    have hT := hS.tok f1 f2 f3
    have hget : s.getD at_ 0 = c := by
      have : s[at_]? = some c := by
        rw [← List.head?_drop, hr]; rfl
      simp [List.getD, this]
    unfold stepF signF
    dsimp only
    rw [hget, hr]
    have htk : tokAt (c :: r) = if signPairs.contains ((c :: r).take 2) = true then some (4, (c :: r).take 2, 0) else if signOnes.contains c = true then some (4, [c], 0) else none := by
      rw [tokAt_cons, if_neg (by simp [hlo]), if_neg (by simp [hdi])]
    rw [htk] at hT
    by_cases hp : signPairs.contains ((c :: r).take 2) = true
    · rw [if_pos hp] at hT ⊢
      have h22 : ((c :: r).take 2).length = 2 := by
        have hm : (c :: r).take 2 ∈ signPairs := by simpa using hp
        simp only [signPairs, List.mem_cons, List.not_mem_nil, or_false] at hm
        rcases hm with h | h | h | h | h | h <;> rw [h] <;> rfl
      have := inv_tok h1 h2 h3 (by rw [hr, htk, if_pos hp]) (by rw [hr]; exact hT) (b := at_ + 2) (by rw [h22])
      refine ⟨this.1, ?_⟩
      unfold meas
      show 3 * (s.length - (at_ + 2)) + 2 < 3 * (s.length - at_) + 1
      omega
    · rw [if_neg hp] at hT ⊢
      by_cases ho : signOnes.contains c = true
      · rw [if_pos ho] at hT ⊢
        have := inv_tok h1 h2 h3 (by rw [hr, htk, if_neg hp, if_pos ho]) (by rw [hr]; exact hT) (b := at_ + 1) rfl
        refine ⟨this.1, ?_⟩
        unfold meas
        show 3 * (s.length - (at_ + 1)) + 2 < 3 * (s.length - at_) + 1
        omega
      · rw [if_neg ho] at hT ⊢
        refine ⟨inv_stop hlt h2 h3 hns hT, ?_⟩
        simp only [meas, rank]; omega
end Go.Proofs.YthepjanojmemaaaGreatDoor
