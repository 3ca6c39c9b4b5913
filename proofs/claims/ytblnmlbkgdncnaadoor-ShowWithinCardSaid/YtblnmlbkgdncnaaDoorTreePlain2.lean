/-
  The language's trees, plain: how many items a check counts, how long texts are, what the writer of statements holds.
-/
import Derived.Test.YtblnmlbkgdncnaaDoorTreePlain
import Derived.Lib.ItoaLen
set_option linter.unusedVariables false
set_option linter.unusedSimpArgs false
namespace Go.Proofs.YtblnmlbkgdncnaaDoor

/-! ### how many items -/
theorem itemC_ok {deep it m : Nat} (h : itemC deep it = .ok m) : m = it + 1 ∧ m ≤ 1024 ∧ deep ≤ 16 := by
  unfold itemC at h
  split at h
  · injection h with h; omega
  · cases h
theorem itemC_err {deep it : Nat} {e : Int} (h : itemC deep it = .error e) : e = 3 := by
  unfold itemC at h
  split at h
  · cases h
  · injection h with h; exact h.symm
mutual
theorem chkEx_ok : ∀ (x : Ex) (deep it m : Nat), chkEx x deep it = .ok m → m = it + exCount x ∧ m ≤ 1024 ∧ deep ≤ 16 ∧ exForm x = 0 ∧ chkExs x.args (deep + 1) (it + 1) = .ok m
  | .mk k n nm t d args, deep, it, m, h => by
    rw [chkEx] at h
    cases hi : itemC deep it with
    | error e => rw [hi] at h; cases h
    | ok it1 =>
      rw [hi] at h
      dsimp only at h
      obtain ⟨h1, h2, h3⟩ := itemC_ok hi
      by_cases hf : exForm (.mk k n nm t d args) ≠ 0
      · rw [if_pos hf] at h; cases h
      · rw [if_neg hf] at h
        obtain ⟨h4, h5⟩ := chkExs_ok args (deep + 1) it1 m h h2
        subst h1
        refine ⟨?_, h5, h3, by simpa using hf, h⟩
        rw [exCount]; omega
theorem chkExs_ok : ∀ (l : List Ex) (deep it m : Nat), chkExs l deep it = .ok m → it ≤ 1024 → m = it + exCounts l ∧ m ≤ 1024
  | [], deep, it, m, h, hi => by
    rw [chkExs] at h
    injection h with h
    subst h
    exact ⟨by rw [exCounts]; rfl, hi⟩
  | x :: r, deep, it, m, h, hi => by
    rw [chkExs] at h
    cases hx : chkEx x deep it with
    | error e => rw [hx] at h; cases h
    | ok it1 =>
      rw [hx] at h
      dsimp only at h
      obtain ⟨h1, h2, -⟩ := chkEx_ok x deep it it1 hx
      obtain ⟨h3, h4⟩ := chkExs_ok r deep it1 m h h2
      refine ⟨?_, h4⟩
      rw [exCounts]; omega
end
/-- one item more has been met ahead -/
def exLim (r : Except Int Nat) : Except Int Nat :=
  match r with
  | .ok m => if m + 1 ≤ 1024 then .ok (m + 1) else .error 3
  | .error e => .error e
theorem exCount_pos (x : Ex) : 1 ≤ exCount x := by cases x; rw [exCount]; omega
mutual
theorem chkEx_shift : ∀ (x : Ex) (deep it : Nat), it + 1 ≤ 1024 → chkEx x deep (it + 1) = exLim (chkEx x deep it) ∨ (chkEx x deep (it + 1) = .error 3 ∧ 1024 < it + 1 + exCount x)
  | .mk k n nm t d args, deep, it, hit => by
    rw [chkEx, chkEx]
    by_cases hd : deep ≤ 16
    · have h1 : itemC deep it = .ok (it + 1) := by unfold itemC; rw [if_pos ⟨hd, hit⟩]
      rw [h1]
      dsimp only
      by_cases h2 : it + 1 + 1 ≤ 1024
      · have h3 : itemC deep (it + 1) = .ok (it + 1 + 1) := by unfold itemC; rw [if_pos ⟨hd, h2⟩]
        rw [h3]
        dsimp only
        by_cases hf : exForm (.mk k n nm t d args) ≠ 0
        · rw [if_pos hf, if_pos hf]; exact .inl rfl
        · rw [if_neg hf, if_neg hf]
          rcases chkExs_shift args (deep + 1) (it + 1) h2 with h | ⟨h, h4⟩
          · exact .inl h
          · exact .inr ⟨h, by rw [exCount]; omega⟩
      · have h3 : itemC deep (it + 1) = .error 3 := by unfold itemC; rw [if_neg (fun h => h2 h.2)]
        rw [h3]
        exact .inr ⟨rfl, by rw [exCount]; omega⟩
    · have h1 : itemC deep it = .error 3 := by unfold itemC; rw [if_neg (fun h => hd h.1)]
      have h3 : itemC deep (it + 1) = .error 3 := by unfold itemC; rw [if_neg (fun h => hd h.1)]
      rw [h1, h3]
      exact .inl rfl
theorem chkExs_shift : ∀ (l : List Ex) (deep it : Nat), it + 1 ≤ 1024 → chkExs l deep (it + 1) = exLim (chkExs l deep it) ∨ (chkExs l deep (it + 1) = .error 3 ∧ 1024 < it + 1 + exCounts l)
  | [], deep, it, hit => by
    rw [chkExs, chkExs]
    refine .inl ?_
    show _ = if it + 1 ≤ 1024 then _ else _
    rw [if_pos hit]
  | x :: r, deep, it, hit => by
    rw [chkExs, chkExs]
    rcases chkEx_shift x deep it hit with h | ⟨h, h2⟩
    · rw [h]
      cases hx : chkEx x deep it with
      | error e => exact .inl rfl
      | ok m =>
        obtain ⟨h3, -⟩ := chkEx_ok x deep it m hx
        by_cases hm : m + 1 ≤ 1024
        · rw [show exLim (.ok m) = .ok (m + 1) from if_pos hm]
          dsimp only
          rcases chkExs_shift r deep m hm with h4 | ⟨h4, h5⟩
          · exact .inl h4
          · exact .inr ⟨h4, by rw [exCounts]; omega⟩
        · rw [show exLim (.ok m) = .error 3 from if_neg hm]
          exact .inr ⟨rfl, by rw [exCounts]; omega⟩
    · rw [h]
      exact .inr ⟨rfl, by rw [exCounts]; omega⟩
end

/-! ### how long texts are -/
theorem nameB_len {l : List UInt8} (h : nameB l = true) : l.length ≤ 16 ∧ l ≠ [] := by
  cases l with
  | nil => cases h
  | cons c r =>
    have h2 : nameB (c :: r) = (decide ((c :: r).length ≤ 16) && decide (97 ≤ c.toNat) && decide (c.toNat ≤ 122) && !wordB (c :: r) && (c :: r).all partB) := rfl
    rw [h2] at h
    simp only [Bool.and_eq_true, decide_eq_true_eq] at h
    exact ⟨h.1.1.1.1, by simp⟩
theorem tyForm_ok {t : Ty} (h : tyForm t = 0) : (t.k = 1 ∧ t.nm = [] ∧ t.n = 0) ∨ (t.k = 2 ∧ nameB t.nm = true ∧ t.n = 0) ∨ (t.k = 3 ∧ (t.nm = [] ∨ nameB t.nm = true) ∧ 1 ≤ t.n ∧ t.n ≤ 64) := by
  unfold tyForm at h
  split at h
  · cases h
  · next h1 =>
    have hn : t.nm = [] ∨ nameB t.nm = true := by
      by_cases he : t.nm = []
      · exact .inl he
      · refine .inr ?_
        cases hb : nameB t.nm with
        | true => rfl
        | false => exact absurd ⟨he, hb⟩ h1
    split at h
    · next h2 =>
      rcases h2 with ⟨a, b, c⟩ | ⟨a, b, c⟩
      · exact .inl ⟨a, b, c⟩
      · exact .inr (.inl ⟨a, hn.resolve_left b, c⟩)
    · split at h
      · cases h
      · next h3 =>
        split at h
        · cases h
        · next h4 =>
          have h5 : t.k = 3 := by
            by_cases hk : t.k = 3
            · exact hk
            · exact absurd (.inl hk) h3
          have h6 : ¬ t.n < 1 := fun hh => h3 (.inr hh)
          exact .inr (.inr ⟨h5, hn, by omega, by omega⟩)
theorem tyText_len {t : Ty} (h : tyForm t = 0) : (tyText t).length ≤ 50 := by
  have hn : t.nm.length ≤ 16 := by
    rcases tyForm_ok h with ⟨-, b, -⟩ | ⟨-, b, -⟩ | ⟨-, b | b, -⟩
    · rw [b]; simp
    · exact (nameB_len b).1
    · rw [b]; simp
    · exact (nameB_len b).1
  unfold tyText
  simp only [List.length_append]
  have h1 : (if t.nm = [] then ([105, 110, 116] : List UInt8) else []).length ≤ 3 := by split <;> simp
  have h2 : (if t.k = 3 then 91 :: (Lib.itoa t.n ++ [93]) else []).length ≤ 23 := by
    split
    · next hk =>
      rcases tyForm_ok h with ⟨a, -⟩ | ⟨a, -⟩ | ⟨-, -, c, d⟩
      · omega
      · omega
      · have := Lib.itoa_length_le t.n (by omega) (by omega); simp; omega
    · simp
  omega
theorem brB_len (b : Bool) (l : List UInt8) : (brB b l).length ≤ l.length + 2 := by
  unfold brB; split <;> simp
theorem joined_len : ∀ l : List (List UInt8), (joined [44, 32] l).length ≤ (l.map fun x => x.length + 2).sum
  | [] => by simp [joined]
  | [x] => by simp [joined]
  | x :: y :: r => by
    have := joined_len (y :: r)
    rw [joined]
    simp only [List.length_append, List.map_cons, List.sum_cons, List.length_cons, List.length_nil] at this ⊢
    omega
theorem signOf_len (k : Int) : (signOf k).length ≤ 2 := by
  unfold signOf
  generalize (k - 10).toNat = j
  match j with
  | 0 => decide | 1 => decide | 2 => decide | 3 => decide | 4 => decide | 5 => decide | 6 => decide | 7 => decide | 8 => decide | 9 => decide | 10 => decide | 11 => decide | 12 => decide
  | j + 13 => simp
/-- every number of a tree is one of 64 bits -/
inductive ExNum : Ex → Prop where
  | mk {k n : Int} {nm : List UInt8} {t : Ty} {d : Hd} {args : List Ex} (hn : -9223372036854775808 ≤ n ∧ n ≤ 9223372036854775807) (sub : ∀ y, y ∈ args → ExNum y) : ExNum (.mk k n nm t d args)
theorem ExNum.sub {x : Ex} (h : ExNum x) : ∀ y, y ∈ x.args → ExNum y := by cases h; assumption
theorem ExNum.n {x : Ex} (h : ExNum x) : -9223372036854775808 ≤ x.n ∧ x.n ≤ 9223372036854775807 := by cases h; assumption
theorem exForm_ok {x : Ex} (h : exForm x = 0) : ∃ m named, arity x.k = some (m, named) ∧ (m < 0 ∨ m = x.args.length) ∧ (x.k = 1 ∨ x.n = 0) ∧ (named = true → nameB x.nm = true) ∧ (named = false → x.nm = []) ∧ (x.k = 6 → x.t.k ≠ 1 ∧ tyForm x.t = 0) ∧ (x.k ≠ 6 → noTy x.t = true) := by
  unfold exForm at h
  split at h
  · cases h
  · next m named ha =>
    split at h
    · cases h
    · next h1 =>
      split at h
      · cases h
      · next h2 =>
        split at h
        · cases h
        · next h3 =>
          split at h
          · cases h
          · next h4 =>
            refine ⟨m, named, ha, Decidable.not_not.1 h1, Decidable.not_not.1 h2, fun hn => ?_, fun hn => ?_, fun hk => ?_, fun hk => ?_⟩
            · subst hn
              cases hb : nameB x.nm with
              | true => rfl
              | false => exact absurd ⟨rfl, hb⟩ h4
            · subst hn
              cases he : x.nm.isEmpty with
              | false => exact absurd he.symm h3
              | true => simpa using he
            · rw [if_pos hk] at h
              split at h
              · cases h
              · next h5 => exact ⟨h5, h⟩
            · rw [if_neg hk] at h
              split at h
              · next h5 => exact h5
              · cases h
theorem exForm_nm {x : Ex} (h : exForm x = 0) : x.nm.length ≤ 16 := by
  obtain ⟨m, named, -, -, -, h1, h2, -⟩ := exForm_ok h
  cases named with
  | true => exact (nameB_len (h1 rfl)).1
  | false => rw [h2 rfl]; simp
theorem exPut_len {k n : Int} {nm : List UInt8} {t : Ty} {args : List Ex} {d : Hd} {ts : List (List UInt8)} (h : exForm (.mk k n nm t d args) = 0) (hn : -9223372036854775808 ≤ n ∧ n ≤ 9223372036854775807) : (exPut k n nm t args ts).length + 2 ≤ 64 + (ts.map fun x => x.length + 2).sum := by
  have hnm : nm.length ≤ 16 := exForm_nm h
  have h0 : (ts.getD 0 []).length + 2 ≤ 2 + (ts.map fun x => x.length + 2).sum := by
    match ts with
    | [] => simp
    | a :: r => simp; omega
  have h01 : (ts.getD 0 []).length + (ts.getD 1 []).length + 4 ≤ 4 + (ts.map fun x => x.length + 2).sum := by
    match ts with
    | [] => simp
    | [a] => simp; omega
    | a :: b :: r => simp; omega
  have hj := joined_len ts
  have ht : k = 6 → (tyText t).length ≤ 50 := fun hk => by
    obtain ⟨m, named, -, -, -, -, -, h1, -⟩ := exForm_ok h
    exact tyText_len (h1 hk).2
  have b0 := fun b => brB_len b (ts.getD 0 [])
  have b1 := fun b => brB_len b (ts.getD 1 [])
  have hs := signOf_len k
  have hi := Lib.itoa_length_le n hn.1 hn.2
  unfold exPut
  dsimp only
  split
  · omega
  · split
    · simp only [List.length_cons, List.length_nil]; omega
    · split
      · omega
      · split
        · have := b0 (sgnB ((args.map Ex.k).getD 0 0))
          simp only [List.length_append, List.length_cons]; omega
        · split
          · have := b0 (sgnB ((args.map Ex.k).getD 0 0))
            simp only [List.length_append, List.length_cons, List.length_nil]; omega
          · split
            · next hk => have := ht hk; simp only [List.length_append, List.length_cons, List.length_nil]; omega
            · split
              · simp only [List.length_append, List.length_cons, List.length_nil]; omega
              · split
                · have := b0 (binB ((args.map Ex.k).getD 0 0) || digExs args)
                  simp only [List.length_append, List.length_cons, List.length_nil]; omega
                · split
                  · have := b0 (binB ((args.map Ex.k).getD 0 0))
                    simp only [List.length_append, List.length_cons, List.length_nil]; omega
                  · have := b0 (binB ((args.map Ex.k).getD 0 0))
                    have := b1 (binB ((args.map Ex.k).getD 1 0))
                    simp only [List.length_append, List.length_cons, List.length_nil]; omega
mutual
theorem exText_len : ∀ (x : Ex) (deep it m : Nat), ExNum x → chkEx x deep it = .ok m → (exText x).length + 2 ≤ 64 * exCount x
  | .mk k n nm t d args, deep, it, m, hn, h => by
    obtain ⟨-, -, -, hf, ha⟩ := chkEx_ok _ deep it m h
    have h1 := exTexts_len args (deep + 1) (it + 1) m hn.sub ha
    have h2 := exPut_len (ts := exTexts args) hf hn.n
    rw [exText, exCount]
    omega
theorem exTexts_len : ∀ (l : List Ex) (deep it m : Nat), (∀ y, y ∈ l → ExNum y) → chkExs l deep it = .ok m → ((exTexts l).map fun x => x.length + 2).sum ≤ 64 * exCounts l
  | [], deep, it, m, hn, h => by rw [exTexts, exCounts]; simp
  | x :: r, deep, it, m, hn, h => by
    rw [chkExs] at h
    cases hx : chkEx x deep it with
    | error e => rw [hx] at h; cases h
    | ok it1 =>
      rw [hx] at h
      have h1 := exText_len x deep it it1 (hn x (by simp)) hx
      have h2 := exTexts_len r deep it1 m (fun y hy => hn y (by simp [hy])) h
      rw [exTexts, exCounts]
      simp only [List.map_cons, List.sum_cons]
      omega
end
theorem exForm_ne (x : Ex) : exForm x = 0 ∨ exForm x = 1 ∨ exForm x = 3 := by
  unfold exForm
  split
  · exact .inr (.inl rfl)
  · split
    · exact .inr (.inl rfl)
    · split
      · exact .inr (.inl rfl)
      · split
        · exact .inr (.inl rfl)
        · split
          · exact .inr (.inl rfl)
          · split
            · split
              · exact .inr (.inl rfl)
              · unfold tyForm
                split
                · exact .inr (.inl rfl)
                · split
                  · exact .inl rfl
                  · split
                    · exact .inr (.inl rfl)
                    · split
                      · exact .inr (.inr rfl)
                      · exact .inl rfl
            · split
              · exact .inl rfl
              · exact .inr (.inl rfl)
mutual
theorem chkEx_ne : ∀ (x : Ex) (deep it : Nat) (e : Int), chkEx x deep it = .error e → e ≠ 0
  | .mk k n nm t d args, deep, it, e, h => by
    rw [chkEx] at h
    cases hi : itemC deep it with
    | error e' =>
      rw [hi] at h
      injection h with h
      have := itemC_err hi
      omega
    | ok it1 =>
      rw [hi] at h
      dsimp only at h
      by_cases hf : exForm (.mk k n nm t d args) ≠ 0
      · rw [if_pos hf] at h
        injection h with h
        rw [← h]; exact hf
      · rw [if_neg hf] at h
        exact chkExs_ne args (deep + 1) it1 e h
theorem chkExs_ne : ∀ (l : List Ex) (deep it : Nat) (e : Int), chkExs l deep it = .error e → e ≠ 0
  | [], deep, it, e, h => by rw [chkExs] at h; cases h
  | x :: r, deep, it, e, h => by
    rw [chkExs] at h
    cases hx : chkEx x deep it with
    | error e' =>
      rw [hx] at h
      injection h with h
      rw [← h]; exact chkEx_ne x deep it e' hx
    | ok it1 =>
      rw [hx] at h
      exact chkExs_ne r deep it1 e h
end
end Go.Proofs.YtblnmlbkgdncnaaDoor
