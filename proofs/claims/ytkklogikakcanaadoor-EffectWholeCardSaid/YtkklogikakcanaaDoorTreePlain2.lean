/-
  The language's trees, plain: how many items a check counts, how long texts are, what the writer of statements holds.
-/
import Derived.Test.YtkklogikakcanaaDoorTreePlain
import Derived.Lib.ItoaLen
set_option linter.unusedVariables false
set_option linter.unusedSimpArgs false
namespace Go.Proofs.YtkklogikakcanaaDoor

/-! ### how many items -/
theorem itemC_ok {deep it m : Nat} (h : itemC deep it = .ok m) : m = it + 1 ∧ m ≤ 1024 ∧ deep ≤ 16 := by
  unfold itemC at h
  split at h
  · injection h with h; omega
  · cases h
theorem itemC_err {deep it : Nat} {e : Int} (h : itemC deep it = .error e) : e = 3 := by
  unfold itemC at h
  split at h
  · cases h
  · injection h with h; exact h.symm
mutual
theorem chkEx_ok : ∀ (x : Ex) (deep it m : Nat), chkEx x deep it = .ok m → m = it + exCount x ∧ m ≤ 1024 ∧ deep ≤ 16 ∧ exForm x = 0 ∧ chkExs x.args (deep + 1) (it + 1) = .ok m
  | .mk k n nm t d args, deep, it, m, h => by
    rw [chkEx] at h
    cases hi : itemC deep it with
    | error e => rw [hi] at h; cases h
    | ok it1 =>
      rw [hi] at h
      dsimp only at h
      obtain ⟨h1, h2, h3⟩ := itemC_ok hi
      by_cases hf : exForm (.mk k n nm t d args) ≠ 0
      · rw [if_pos hf] at h; cases h
      · rw [if_neg hf] at h
        obtain ⟨h4, h5⟩ := chkExs_ok args (deep + 1) it1 m h h2
        subst h1
        refine ⟨?_, h5, h3, by simpa using hf, h⟩
        rw [exCount]; omega
theorem chkExs_ok : ∀ (l : List Ex) (deep it m : Nat), chkExs l deep it = .ok m → it ≤ 1024 → m = it + exCounts l ∧ m ≤ 1024
  | [], deep, it, m, h, hi => by
    rw [chkExs] at h
    injection h with h
    subst h
    exact ⟨by rw [exCounts]; rfl, hi⟩
  | x :: r, deep, it, m, h, hi => by
    rw [chkExs] at h
    cases hx : chkEx x deep it with
    | error e => rw [hx] at h; cases h
    | ok it1 =>
      rw [hx] at h
      dsimp only at h
      obtain ⟨h1, h2, -⟩ := chkEx_ok x deep it it1 hx
      obtain ⟨h3, h4⟩ := chkExs_ok r deep it1 m h h2
      refine ⟨?_, h4⟩
      rw [exCounts]; omega
end
/-- one item more has been met ahead -/
def exLim (r : Except Int Nat) : Except Int Nat :=
  match r with
  | .ok m => if m + 1 ≤ 1024 then .ok (m + 1) else .error 3
  | .error e => .error e
theorem exCount_pos (x : Ex) : 1 ≤ exCount x := by cases x; rw [exCount]; omega
mutual
theorem chkEx_shift : ∀ (x : Ex) (deep it : Nat), it + 1 ≤ 1024 → chkEx x deep (it + 1) = exLim (chkEx x deep it) ∨ (chkEx x deep (it + 1) = .error 3 ∧ 1024 < it + 1 + exCount x)
  | .mk k n nm t d args, deep, it, hit => by
    rw [chkEx, chkEx]
    by_cases hd : deep ≤ 16
    · have h1 : itemC deep it = .ok (it + 1) := by unfold itemC; rw [if_pos ⟨hd, hit⟩]
      rw [h1]
      dsimp only
      by_cases h2 : it + 1 + 1 ≤ 1024
      · have h3 : itemC deep (it + 1) = .ok (it + 1 + 1) := by unfold itemC; rw [if_pos ⟨hd, h2⟩]
        rw [h3]
        dsimp only
        by_cases hf : exForm (.mk k n nm t d args) ≠ 0
        · rw [if_pos hf, if_pos hf]; exact .inl rfl
        · rw [if_neg hf, if_neg hf]
          rcases chkExs_shift args (deep + 1) (it + 1) h2 with h | ⟨h, h4⟩
          · exact .inl h
          · exact .inr ⟨h, by rw [exCount]; omega⟩
      · have h3 : itemC deep (it + 1) = .error 3 := by unfold itemC; rw [if_neg (fun h => h2 h.2)]
        rw [h3]
        exact .inr ⟨rfl, by rw [exCount]; omega⟩
    · have h1 : itemC deep it = .error 3 := by unfold itemC; rw [if_neg (fun h => hd h.1)]
      have h3 : itemC deep (it + 1) = .error 3 := by unfold itemC; rw [if_neg (fun h => hd h.1)]
      rw [h1, h3]
      exact .inl rfl
theorem chkExs_shift : ∀ (l : List Ex) (deep it : Nat), it + 1 ≤ 1024 → chkExs l deep (it + 1) = exLim (chkExs l deep it) ∨ (chkExs l deep (it + 1) = .error 3 ∧ 1024 < it + 1 + exCounts l)
  | [], deep, it, hit => by
    rw [chkExs, chkExs]
    refine .inl ?_
    show _ = if it + 1 ≤ 1024 then _ else _
    rw [if_pos hit]
  | x :: r, deep, it, hit => by
    rw [chkExs, chkExs]
    rcases chkEx_shift x deep it hit with h | ⟨h, h2⟩
    · rw [h]
      cases hx : chkEx x deep it with
      | error e => exact .inl rfl
      | ok m =>
        obtain ⟨h3, -⟩ := chkEx_ok x deep it m hx
        by_cases hm : m + 1 ≤ 1024
        · rw [show exLim (.ok m) = .ok (m + 1) from if_pos hm]
          dsimp only
          rcases chkExs_shift r deep m hm with h4 | ⟨h4, h5⟩
          · exact .inl h4
          · exact .inr ⟨h4, by rw [exCounts]; omega⟩
        · rw [show exLim (.ok m) = .error 3 from if_neg hm]
          exact .inr ⟨rfl, by rw [exCounts]; omega⟩
    · rw [h]
      exact .inr ⟨rfl, by rw [exCounts]; omega⟩
end

/-! ### how long texts are -/
theorem nameB_len {l : List UInt8} (h : nameB l = true) : l.length ≤ 16 ∧ l ≠ [] := by
  cases l with
  | nil => cases h
  | cons c r =>
    have h2 : nameB (c :: r) = (decide ((c :: r).length ≤ 16) && decide (97 ≤ c.toNat) && decide (c.toNat ≤ 122) && !wordB (c :: r) && (c :: r).all partB) := rfl
    rw [h2] at h
    simp only [Bool.and_eq_true, decide_eq_true_eq] at h
    exact ⟨h.1.1.1.1, by simp⟩
theorem tyForm_ok {t : Ty} (h : tyForm t = 0) : (t.k = 1 ∧ t.nm = [] ∧ t.n = 0) ∨ (t.k = 2 ∧ nameB t.nm = true ∧ t.n = 0) ∨ (t.k = 3 ∧ (t.nm = [] ∨ nameB t.nm = true) ∧ 1 ≤ t.n ∧ t.n ≤ 64) := by
  unfold tyForm at h
  split at h
  · cases h
  · next h1 =>
    have hn : t.nm = [] ∨ nameB t.nm = true := by
      by_cases he : t.nm = []
      · exact .inl he
      · refine .inr ?_
        cases hb : nameB t.nm with
        | true => rfl
        | false => exact absurd ⟨he, hb⟩ h1
    split at h
    · next h2 =>
      rcases h2 with ⟨a, b, c⟩ | ⟨a, b, c⟩
      · exact .inl ⟨a, b, c⟩
      · exact .inr (.inl ⟨a, hn.resolve_left b, c⟩)
    · split at h
      · cases h
      · next h3 =>
        split at h
        · cases h
        · next h4 =>
          have h5 : t.k = 3 := by
            by_cases hk : t.k = 3
            · exact hk
            · exact absurd (.inl hk) h3
          have h6 : ¬ t.n < 1 := fun hh => h3 (.inr hh)
          exact .inr (.inr ⟨h5, hn, by omega, by omega⟩)
theorem tyText_len {t : Ty} (h : tyForm t = 0) : (tyText t).length ≤ 50 := by
  have hn : t.nm.length ≤ 16 := by
    rcases tyForm_ok h with ⟨-, b, -⟩ | ⟨-, b, -⟩ | ⟨-, b | b, -⟩
    · rw [b]; simp
    · exact (nameB_len b).1
    · rw [b]; simp
    · exact (nameB_len b).1
  unfold tyText
  simp only [List.length_append]
  have h1 : (if t.nm = [] then ([105, 110, 116] : List UInt8) else []).length ≤ 3 := by split <;> simp
  have h2 : (if t.k = 3 then 91 :: (Lib.itoa t.n ++ [93]) else []).length ≤ 23 := by
    split
    · next hk =>
      rcases tyForm_ok h with ⟨a, -⟩ | ⟨a, -⟩ | ⟨-, -, c, d⟩
      · omega
      · omega
      · have := Lib.itoa_length_le t.n (by omega) (by omega); simp; omega
    · simp
  omega
theorem brB_len (b : Bool) (l : List UInt8) : (brB b l).length ≤ l.length + 2 := by
  unfold brB; split <;> simp
theorem joined_len : ∀ l : List (List UInt8), (joined [44, 32] l).length ≤ (l.map fun x => x.length + 2).sum
  | [] => by simp [joined]
  | [x] => by simp [joined]
  | x :: y :: r => by
    have := joined_len (y :: r)
    rw [joined]
    simp only [List.length_append, List.map_cons, List.sum_cons, List.length_cons, List.length_nil] at this ⊢
    omega
theorem signOf_len (k : Int) : (signOf k).length ≤ 2 := by
  unfold signOf
  generalize (k - 10).toNat = j
  match j with
  | 0 => decide | 1 => decide | 2 => decide | 3 => decide | 4 => decide | 5 => decide | 6 => decide | 7 => decide | 8 => decide | 9 => decide | 10 => decide | 11 => decide | 12 => decide
  | j + 13 => simp
/-- every number of a tree is one of 64 bits -/
inductive ExNum : Ex → Prop where
  | mk {k n : Int} {nm : List UInt8} {t : Ty} {d : Hd} {args : List Ex} (hn : -9223372036854775808 ≤ n ∧ n ≤ 9223372036854775807) (sub : ∀ y, y ∈ args → ExNum y) : ExNum (.mk k n nm t d args)
theorem ExNum.sub {x : Ex} (h : ExNum x) : ∀ y, y ∈ x.args → ExNum y := by cases h; assumption
theorem ExNum.n {x : Ex} (h : ExNum x) : -9223372036854775808 ≤ x.n ∧ x.n ≤ 9223372036854775807 := by cases h; assumption
theorem exForm_ok {x : Ex} (h : exForm x = 0) : ∃ m named, arity x.k = some (m, named) ∧ (m < 0 ∨ m = x.args.length) ∧ (x.k = 1 ∨ x.n = 0) ∧ (named = true → nameB x.nm = true) ∧ (named = false → x.nm = []) ∧ (x.k = 6 → x.t.k ≠ 1 ∧ tyForm x.t = 0) ∧ (x.k ≠ 6 → noTy x.t = true) := by
  unfold exForm at h
  split at h
  · cases h
  · next m named ha =>
    split at h
    · cases h
    · next h1 =>
      split at h
      · cases h
      · next h2 =>
        split at h
        · cases h
        · next h3 =>
          split at h
          · cases h
          · next h4 =>
            refine ⟨m, named, ha, Decidable.not_not.1 h1, Decidable.not_not.1 h2, fun hn => ?_, fun hn => ?_, fun hk => ?_, fun hk => ?_⟩
            · subst hn
              cases hb : nameB x.nm with
              | true => rfl
              | false => exact absurd ⟨rfl, hb⟩ h4
            · subst hn
              cases he : x.nm.isEmpty with
              | false => exact absurd he.symm h3
              | true => simpa using he
            · rw [if_pos hk] at h
              split at h
              · cases h
              · next h5 => exact ⟨h5, h⟩
            · rw [if_neg hk] at h
              split at h
              · next h5 => exact h5
              · cases h
theorem exForm_nm {x : Ex} (h : exForm x = 0) : x.nm.length ≤ 16 := by
  obtain ⟨m, named, -, -, -, h1, h2, -⟩ := exForm_ok h
  cases named with
  | true => exact (nameB_len (h1 rfl)).1
  | false => rw [h2 rfl]; simp
theorem exPut_len {k n : Int} {nm : List UInt8} {t : Ty} {args : List Ex} {d : Hd} {ts : List (List UInt8)} (h : exForm (.mk k n nm t d args) = 0) (hn : -9223372036854775808 ≤ n ∧ n ≤ 9223372036854775807) : (exPut k n nm t args ts).length + 2 ≤ 64 + (ts.map fun x => x.length + 2).sum := by
  have hnm : nm.length ≤ 16 := exForm_nm h
  have h0 : (ts.getD 0 []).length + 2 ≤ 2 + (ts.map fun x => x.length + 2).sum := by
    match ts with
    | [] => simp
    | a :: r => simp; omega
  have h01 : (ts.getD 0 []).length + (ts.getD 1 []).length + 4 ≤ 4 + (ts.map fun x => x.length + 2).sum := by
    match ts with
    | [] => simp
    | [a] => simp; omega
    | a :: b :: r => simp; omega
  have hj := joined_len ts
  have ht : k = 6 → (tyText t).length ≤ 50 := fun hk => by
    obtain ⟨m, named, -, -, -, -, -, h1, -⟩ := exForm_ok h
    exact tyText_len (h1 hk).2
  have b0 := fun b => brB_len b (ts.getD 0 [])
  have b1 := fun b => brB_len b (ts.getD 1 [])
  have hs := signOf_len k
  have hi := Lib.itoa_length_le n hn.1 hn.2
  unfold exPut
  dsimp only
  split
  · omega
  · split
    · simp only [List.length_cons, List.length_nil]; omega
    · split
      · omega
      · split
        · have := b0 (sgnB ((args.map Ex.k).getD 0 0))
          simp only [List.length_append, List.length_cons]; omega
        · split
          · have := b0 (sgnB ((args.map Ex.k).getD 0 0))
            simp only [List.length_append, List.length_cons, List.length_nil]; omega
          · split
            · next hk => have := ht hk; simp only [List.length_append, List.length_cons, List.length_nil]; omega
            · split
              · simp only [List.length_append, List.length_cons, List.length_nil]; omega
              · split
                · have := b0 (binB ((args.map Ex.k).getD 0 0) || digExs args)
                  simp only [List.length_append, List.length_cons, List.length_nil]; omega
                · split
                  · have := b0 (binB ((args.map Ex.k).getD 0 0))
                    simp only [List.length_append, List.length_cons, List.length_nil]; omega
                  · have := b0 (binB ((args.map Ex.k).getD 0 0))
                    have := b1 (binB ((args.map Ex.k).getD 1 0))
                    simp only [List.length_append, List.length_cons, List.length_nil]; omega
mutual
theorem exText_len : ∀ (x : Ex) (deep it m : Nat), ExNum x → chkEx x deep it = .ok m → (exText x).length + 2 ≤ 64 * exCount x
  | .mk k n nm t d args, deep, it, m, hn, h => by
    obtain ⟨-, -, -, hf, ha⟩ := chkEx_ok _ deep it m h
    have h1 := exTexts_len args (deep + 1) (it + 1) m hn.sub ha
    have h2 := exPut_len (ts := exTexts args) hf hn.n
    rw [exText, exCount]
    omega
theorem exTexts_len : ∀ (l : List Ex) (deep it m : Nat), (∀ y, y ∈ l → ExNum y) → chkExs l deep it = .ok m → ((exTexts l).map fun x => x.length + 2).sum ≤ 64 * exCounts l
  | [], deep, it, m, hn, h => by rw [exTexts, exCounts]; simp
  | x :: r, deep, it, m, hn, h => by
    rw [chkExs] at h
    cases hx : chkEx x deep it with
    | error e => rw [hx] at h; cases h
    | ok it1 =>
      rw [hx] at h
      have h1 := exText_len x deep it it1 (hn x (by simp)) hx
      have h2 := exTexts_len r deep it1 m (fun y hy => hn y (by simp [hy])) h
      rw [exTexts, exCounts]
      simp only [List.map_cons, List.sum_cons]
      omega
end
theorem exForm_ne (x : Ex) : exForm x = 0 ∨ exForm x = 1 ∨ exForm x = 3 := by
  unfold exForm
  split
  · exact .inr (.inl rfl)
  · split
    · exact .inr (.inl rfl)
    · split
      · exact .inr (.inl rfl)
      · split
        · exact .inr (.inl rfl)
        · split
          · exact .inr (.inl rfl)
          · split
            · split
              · exact .inr (.inl rfl)
              · unfold tyForm
                split
                · exact .inr (.inl rfl)
                · split
                  · exact .inl rfl
                  · split
                    · exact .inr (.inl rfl)
                    · split
                      · exact .inr (.inr rfl)
                      · exact .inl rfl
            · split
              · exact .inl rfl
              · exact .inr (.inl rfl)
mutual
theorem chkEx_ne : ∀ (x : Ex) (deep it : Nat) (e : Int), chkEx x deep it = .error e → e ≠ 0
  | .mk k n nm t d args, deep, it, e, h => by
    rw [chkEx] at h
    cases hi : itemC deep it with
    | error e' =>
      rw [hi] at h
      injection h with h
      have := itemC_err hi
      omega
    | ok it1 =>
      rw [hi] at h
      dsimp only at h
      by_cases hf : exForm (.mk k n nm t d args) ≠ 0
      · rw [if_pos hf] at h
        injection h with h
        rw [← h]; exact hf
      · rw [if_neg hf] at h
        exact chkExs_ne args (deep + 1) it1 e h
theorem chkExs_ne : ∀ (l : List Ex) (deep it : Nat) (e : Int), chkExs l deep it = .error e → e ≠ 0
  | [], deep, it, e, h => by rw [chkExs] at h; cases h
  | x :: r, deep, it, e, h => by
    rw [chkExs] at h
    cases hx : chkEx x deep it with
    | error e' =>
      rw [hx] at h
      injection h with h
      rw [← h]; exact chkEx_ne x deep it e' hx
    | ok it1 =>
      rw [hx] at h
      exact chkExs_ne r deep it1 e h
end
end Go.Proofs.YtkklogikakcanaaDoor
namespace Go.Proofs.YtkklogikakcanaaDoor

/-! ### a check that finds nothing wrong -/
structure StGood (s : St) (deep : Nat) (a a' : At) : Prop where
  dp : deep ≤ 16
  form : stForm s = true
  ty : s.k = 1 → tyForm s.t = 0
  x : ¬ (s.k = 5 ∨ ((s.k = 1 ∨ s.k = 7) ∧ noEx s.x = true)) → ∃ it m, chkEx s.x 1 it = .ok m
  y : s.k = 2 → ∃ it m, chkEx s.y 1 it = .ok m
  lists : ∃ a2 a3, chkSts s.body (deep + 1) a2 = .on a3 ∧ chkSts s.els (deep + 1) a3 = .on a'
theorem chkXt_on {x : Ex} {a a' : At} (h : chkXt x a = .on a') : ∃ m, chkEx x 1 a.it = .ok m ∧ a' = ⟨a.p, m⟩ := by
  unfold chkXt at h
  cases hx : chkEx x 1 a.it with
  | error e => rw [hx] at h; cases h
  | ok m => rw [hx] at h; injection h with h; exact ⟨m, rfl, h.symm⟩
theorem chkSt_on {s : St} {deep : Nat} {a a' : At} (h : chkSt s deep a = .on a') : StGood s deep a a' := by
  obtain ⟨k, nm, t, x, y, bd, body, ed, els⟩ := s
  rw [chkSt] at h
  cases hi : itemC deep a.it with
  | error e => rw [hi] at h; cases h
  | ok it =>
    rw [hi] at h
    dsimp only at h
    obtain ⟨-, -, hd⟩ := itemC_ok hi
    split at h
    · cases h
    · next hf =>
      split at h
      · cases h
      · next ht =>
        cases hx : (if k = 5 ∨ ((k = 1 ∨ k = 7) ∧ noEx x = true) then Chk.on ⟨a.p, it⟩ else chkXt x ⟨a.p, it⟩) with
        | bad p e => rw [hx] at h; cases h
        | on a1 =>
          rw [hx] at h
          dsimp only at h
          cases hy : (if k = 2 then chkXt y a1 else Chk.on a1) with
          | bad p e => rw [hy] at h; cases h
          | on a2 =>
            rw [hy] at h
            dsimp only at h
            cases hb : chkSts body (deep + 1) a2 with
            | bad p e => rw [hb] at h; cases h
            | on a3 =>
              rw [hb] at h
              refine ⟨hd, ?_, ?_, ?_, ?_, a2, a3, hb, h⟩
              · cases hq : stForm (.mk k nm t x y bd body ed els) with
                | true => rfl
                | false => exact absurd hq hf
              · intro hk
                exact Decidable.not_not.1 fun hh => ht ⟨hk, hh⟩
              · intro hn
                replace hn : ¬ (k = 5 ∨ ((k = 1 ∨ k = 7) ∧ noEx x = true)) := hn
                rw [if_neg hn] at hx
                obtain ⟨m, hm, -⟩ := chkXt_on hx
                exact ⟨_, m, hm⟩
              · intro hk
                replace hk : k = 2 := hk
                rw [if_pos hk] at hy
                obtain ⟨m, hm, -⟩ := chkXt_on hy
                exact ⟨_, m, hm⟩
theorem chkSts_on {s : St} {r : List St} {deep : Nat} {a a' : At} (h : chkSts (s :: r) deep a = .on a') : ∃ a1, chkSt s deep ⟨a.p + 1, a.it⟩ = .on a1 ∧ chkSts r deep a1 = .on a' := by
  rw [chkSts] at h
  cases hs : chkSt s deep ⟨a.p + 1, a.it⟩ with
  | bad p e => rw [hs] at h; cases h
  | on a1 => rw [hs] at h; exact ⟨a1, rfl, h⟩
theorem ex_given {x : Ex} {deep it m : Nat} (h : chkEx x deep it = .ok m) : noEx x = false ∧ exGiven x = exCount x := by
  have hn : noEx x = false := by
    obtain ⟨-, -, -, hf, -⟩ := chkEx_ok x deep it m h
    obtain ⟨q, named, ha, -⟩ := exForm_ok hf
    unfold noEx
    by_cases hk : x.k = 0
    · rw [hk] at ha; exact absurd (show arity 0 = none from rfl) (by rw [ha]; intro h; cases h)
    · simp [hk]
  exact ⟨hn, by unfold exGiven; rw [hn]; rfl⟩
/-! ### how long the text of statements is -/
inductive StNum : St → Prop where
  | mk {k : Int} {nm : List UInt8} {t : Ty} {x y : Ex} {bd : Hd} {body : List St} {ed : Hd} {els : List St} (hx : ExNum x) (hy : ExNum y) (b : ∀ s, s ∈ body → StNum s) (e : ∀ s, s ∈ els → StNum s) : StNum (.mk k nm t x y bd body ed els)
theorem StNum.x {s : St} (h : StNum s) : ExNum s.x := by cases h; assumption
theorem StNum.y {s : St} (h : StNum s) : ExNum s.y := by cases h; assumption
theorem StNum.body {s : St} (h : StNum s) : ∀ z, z ∈ s.body → StNum z := by cases h; assumption
theorem StNum.els {s : St} (h : StNum s) : ∀ z, z ∈ s.els → StNum z := by cases h; assumption
theorem form_nm {s : St} (h : stForm s = true) : s.nm.length ≤ 16 := by
  unfold stForm at h
  split at h
  · simp only [Bool.and_eq_true, List.isEmpty_iff] at h; rw [h.2.1]; simp
  · split at h
    · cases h
    · split at h
      · cases h
      · split at h
        · simp only [Bool.and_eq_true] at h; exact (nameB_len h.1).1
        · simp only [Bool.and_eq_true, List.isEmpty_iff] at h; rw [h.1.1]; simp
theorem form_k {s : St} (h : stForm s = true) : 1 ≤ s.k ∧ s.k ≤ 8 := by
  unfold stForm at h
  split at h
  · omega
  · split at h
    · cases h
    · omega
/-- the text of an expression that has been checked -/
theorem given_len {x : Ex} (hn : ExNum x) (h : ∃ it m, chkEx x 1 it = .ok m) : noEx x = false ∧ (exText x).length + 2 ≤ 64 * exGiven x := by
  obtain ⟨it, m, h⟩ := h
  obtain ⟨h1, h2⟩ := ex_given h
  rw [h2]
  exact ⟨h1, exText_len x 1 it m hn h⟩
mutual
theorem stText_len : ∀ (s : St) (deep : Nat) (a a' : At) (ind : List UInt8), StNum s → chkSt s deep a = .on a' → ind.length ≤ 2 * deep → (stText s ind).length + ind.length + 1 ≤ 300 * stCount s
  | .mk k nm t x y bd body ed els, deep, a, a', ind, hn, h, hi => by
    have g := chkSt_on h
    obtain ⟨a2, a3, hb, he⟩ := g.lists
    have h1 := stTexts_len body (deep + 1) a2 a3 (ind ++ [32, 32]) hn.body hb (by simp; omega)
    have h2 := stTexts_len els (deep + 1) a3 a' (ind ++ [32, 32]) hn.els he (by simp; omega)
    have hnm := form_nm g.form
    have hk := form_k g.form
    have hd := g.dp
    have hty := fun hk => tyText_len (g.ty hk)
    have hx := fun hb => given_len hn.x (g.x hb)
    have hy := fun hk => given_len hn.y (g.y hk)
    dsimp only [St.nm, St.k, St.t, St.x, St.y, St.body, St.els] at *
    rw [stText, stCount]
    split
    · next hk1 =>
      have := hty hk1
      by_cases hne : noEx x = true
      · rw [if_pos hne]; simp only [List.length_append, List.length_cons, List.length_nil]; omega
      · have := (hx (fun hb => hb.elim (fun h5 => by omega) (fun h5 => hne h5.2))).2
        rw [if_neg hne]; simp only [List.length_append, List.length_cons, List.length_nil]; omega
    · next hk1 =>
      split
      · next hk2 =>
        have := (hx (fun hb => by omega)).2
        have := (hy hk2).2
        simp only [List.length_append, List.length_cons, List.length_nil]; omega
      · next hk2 =>
        split
        · next hk3 =>
          have := (hx (fun hb => by omega)).2
          by_cases hel : els.isEmpty = true
          · rw [if_pos hel]; simp only [List.length_append, List.length_cons, List.length_nil] at *; omega
          · rw [if_neg hel]; simp only [List.length_append, List.length_cons, List.length_nil] at *; omega
        · next hk3 =>
          split
          · next hk4 =>
            have := (hx (fun hb => by omega)).2
            simp only [List.length_append, List.length_cons, List.length_nil] at *; omega
          · next hk4 =>
            split
            · next hk5 => simp only [List.length_append, List.length_cons, List.length_nil] at *; omega
            · next hk5 =>
              split
              · next hk6 =>
                have := (hx (fun hb => by omega)).2
                simp only [List.length_append, List.length_cons, List.length_nil] at *; omega
              · next hk6 =>
                split
                · next hk7 =>
                  by_cases hne : noEx x = true
                  · rw [if_pos hne]; simp only [List.length_append, List.length_cons, List.length_nil]; omega
                  · have := (hx (fun hb => hb.elim (fun h5 => by omega) (fun h5 => hne h5.2))).2
                    rw [if_neg hne]; simp only [List.length_append, List.length_cons, List.length_nil]; omega
                · next hk7 =>
                  have := (hx (fun hb => by omega)).2
                  simp only [List.length_append, List.length_cons, List.length_nil]; omega
theorem stTexts_len : ∀ (l : List St) (deep : Nat) (a a' : At) (ind : List UInt8), (∀ s, s ∈ l → StNum s) → chkSts l deep a = .on a' → ind.length ≤ 2 * deep → (stTexts l ind).length ≤ 300 * stCounts l
  | [], deep, a, a', ind, hn, h, hi => by rw [stTexts]; simp
  | s :: r, deep, a, a', ind, hn, h, hi => by
    obtain ⟨a1, h1, h2⟩ := chkSts_on h
    have h3 := stText_len s deep _ a1 ind (hn s (by simp)) h1 hi
    have h4 := stTexts_len r deep a1 a' ind (fun z hz => hn z (by simp [hz])) h2 hi
    rw [stTexts, stCounts]
    simp only [List.length_append, List.length_cons, List.length_nil]
    omega
end
/-! ### the writer that leaves off -/
/-- what is held behind a text: all of it, or too much both ways -/
def Wr (acc T c : List UInt8) : Prop := c = acc ++ T ∨ (65536 < c.length ∧ 65536 < (acc ++ T).length)
theorem Wr.app (acc T : List UInt8) : Wr acc T (acc ++ T) := .inl rfl
theorem Wr.trans {a b c T U : List UInt8} (h : Wr a T b) (g : Wr b U c) : Wr a (T ++ U) c := by
  rcases h with rfl | ⟨h1, h2⟩
  · rcases g with rfl | ⟨g1, g2⟩
    · exact .inl (List.append_assoc _ _ _)
    · exact .inr ⟨g1, by rw [← List.append_assoc]; exact g2⟩
  · refine .inr ⟨?_, by rw [← List.append_assoc]; simp only [List.length_append] at *; omega⟩
    rcases g with rfl | ⟨g1, g2⟩
    · simp only [List.length_append] at *; omega
    · exact g1
mutual
/-- a statement's text behind what is held -/
def wSt : List UInt8 → St → List UInt8 → List UInt8
  | acc, .mk k nm t x y bd body ed els, ind =>
    if k = 3 then
      (if els.isEmpty then wSts (acc ++ (([105, 102, 32] ++ (exText x ++ [32])) ++ [123, 10])) body (ind ++ [32, 32]) ++ (ind ++ [125])
       else wSts (wSts (acc ++ (([105, 102, 32] ++ (exText x ++ [32])) ++ [123, 10])) body (ind ++ [32, 32]) ++ ((ind ++ [125]) ++ ([32, 101, 108, 115, 101, 32] ++ [123, 10]))) els (ind ++ [32, 32]) ++ (ind ++ [125]))
    else if k = 4 then wSts (acc ++ (([119, 104, 105, 108, 101, 32] ++ (exText x ++ [32])) ++ [123, 10])) body (ind ++ [32, 32]) ++ (ind ++ [125])
    else if k = 5 then wSts (acc ++ ([97, 116, 111, 109, 105, 99, 32] ++ [123, 10])) body (ind ++ [32, 32]) ++ (ind ++ [125])
    else acc ++ stText (.mk k nm t x y bd body ed els) ind
def wSts : List UInt8 → List St → List UInt8 → List UInt8
  | acc, [], _ => acc
  | acc, s :: r, ind => if 65536 < acc.length then acc else wSts (wSt (acc ++ ind) s ind ++ [10]) r ind
end
mutual
theorem wSt_is : ∀ (acc : List UInt8) (s : St) (ind : List UInt8), Wr acc (stText s ind) (wSt acc s ind) ∧ (wSt acc s ind).length ≤ acc.length + (stText s ind).length
  | acc, .mk k nm t x y bd body ed els, ind => by
    rw [wSt]
    by_cases h3 : k = 3
    · subst h3
      rw [if_pos rfl]
      have e : stText (.mk 3 nm t x y bd body ed els) ind = (([105, 102, 32] ++ (exText x ++ [32])) ++ [123, 10]) ++ (stTexts body (ind ++ [32, 32]) ++ ((ind ++ [125]) ++ (if els.isEmpty then [] else ([32, 101, 108, 115, 101, 32] ++ [123, 10]) ++ (stTexts els (ind ++ [32, 32]) ++ (ind ++ [125]))))) := by
        rw [stText, if_neg (by decide), if_neg (by decide), if_pos rfl]
        by_cases hel : els.isEmpty = true
        · rw [if_pos hel, if_pos hel]; simp
        · rw [if_neg hel, if_neg hel]; simp
      rw [e]
      obtain ⟨b1, b2⟩ := wSts_is (acc ++ (([105, 102, 32] ++ (exText x ++ [32])) ++ [123, 10])) body (ind ++ [32, 32])
      by_cases hel : els.isEmpty = true
      · rw [if_pos hel, if_pos hel, List.append_nil]
        refine ⟨((Wr.app acc _).trans (b1.trans (.app _ _))), ?_⟩
        simp only [List.length_append] at *; omega
      · rw [if_neg hel, if_neg hel]
        obtain ⟨c1, c2⟩ := wSts_is (wSts (acc ++ (([105, 102, 32] ++ (exText x ++ [32])) ++ [123, 10])) body (ind ++ [32, 32]) ++ ((ind ++ [125]) ++ ([32, 101, 108, 115, 101, 32] ++ [123, 10]))) els (ind ++ [32, 32])
        refine ⟨?_, ?_⟩
        · have := ((Wr.app acc _).trans (b1.trans ((Wr.app _ ((ind ++ [125]) ++ ([32, 101, 108, 115, 101, 32] ++ [123, 10]))).trans (c1.trans (.app _ (ind ++ [125]))))))
          simpa using this
        · simp only [List.length_append] at *; omega
    · rw [if_neg h3]
      by_cases h4 : k = 4
      · subst h4
        rw [if_pos rfl]
        have e : stText (.mk 4 nm t x y bd body ed els) ind = (([119, 104, 105, 108, 101, 32] ++ (exText x ++ [32])) ++ [123, 10]) ++ (stTexts body (ind ++ [32, 32]) ++ (ind ++ [125])) := by
          rw [stText, if_neg (by decide), if_neg (by decide), if_neg (by decide), if_pos rfl]
          simp
        rw [e]
        obtain ⟨b1, b2⟩ := wSts_is (acc ++ (([119, 104, 105, 108, 101, 32] ++ (exText x ++ [32])) ++ [123, 10])) body (ind ++ [32, 32])
        refine ⟨((Wr.app acc _).trans (b1.trans (.app _ _))), ?_⟩
        simp only [List.length_append] at *; omega
      · rw [if_neg h4]
        by_cases h5 : k = 5
        · subst h5
          rw [if_pos rfl]
          have e : stText (.mk 5 nm t x y bd body ed els) ind = ([97, 116, 111, 109, 105, 99, 32] ++ [123, 10]) ++ (stTexts body (ind ++ [32, 32]) ++ (ind ++ [125])) := by
            rw [stText, if_neg (by decide), if_neg (by decide), if_neg (by decide), if_neg (by decide), if_pos rfl]
            simp
          rw [e]
          obtain ⟨b1, b2⟩ := wSts_is (acc ++ ([97, 116, 111, 109, 105, 99, 32] ++ [123, 10])) body (ind ++ [32, 32])
          refine ⟨((Wr.app acc _).trans (b1.trans (.app _ _))), ?_⟩
          simp only [List.length_append] at *; omega
        · rw [if_neg h5]
          exact ⟨.app _ _, by simp⟩
theorem wSts_is : ∀ (acc : List UInt8) (l : List St) (ind : List UInt8), Wr acc (stTexts l ind) (wSts acc l ind) ∧ (wSts acc l ind).length ≤ acc.length + (stTexts l ind).length
  | acc, [], ind => by
    rw [wSts, stTexts]
    exact ⟨.inl (by simp), by simp⟩
  | acc, s :: r, ind => by
    rw [wSts, stTexts]
    by_cases hl : 65536 < acc.length
    · rw [if_pos hl]
      exact ⟨.inr ⟨hl, by simp only [List.length_append]; omega⟩, by omega⟩
    · rw [if_neg hl]
      obtain ⟨a1, a2⟩ := wSt_is (acc ++ ind) s ind
      obtain ⟨b1, b2⟩ := wSts_is (wSt (acc ++ ind) s ind ++ [10]) r ind
      refine ⟨(Wr.app acc ind).trans (a1.trans ((Wr.app _ [10]).trans b1)), ?_⟩
      simp only [List.length_append, List.length_cons, List.length_nil] at *; omega
end
end Go.Proofs.YtkklogikakcanaaDoor
namespace Go.Proofs.YtkklogikakcanaaDoor

theorem form_y {s : St} (h : stForm s = true) : (s.k ≠ 2 → noEx s.y = true) ∧ (s.k = 5 → noEx s.x = true) ∧ (s.k ≠ 3 ∧ s.k ≠ 4 ∧ s.k ≠ 5 → s.body = []) ∧ (s.k ≠ 3 → s.els = []) := by
  unfold stForm at h
  split at h
  · next hk =>
    simp only [Bool.and_eq_true, List.isEmpty_iff] at h
    exact ⟨fun hh => absurd hk hh, fun hh => by omega, fun _ => h.2.2.2.1, fun _ => h.2.2.2.2⟩
  · split at h
    · cases h
    · split at h
      · cases h
      · simp only [Bool.and_eq_true, Bool.or_eq_true, decide_eq_true_eq, List.isEmpty_iff] at h
        obtain ⟨-, h1, h2, h3, h4⟩ := h
        refine ⟨fun _ => h1, fun hk => h2.resolve_left (fun hh => hh hk), fun hk => ?_, fun hk => h4.resolve_left hk⟩
        rcases h3 with h3 | h3 | h3 | h3
        · exact absurd h3 hk.1
        · exact absurd h3 hk.2.1
        · exact absurd h3 hk.2.2
        · exact h3
theorem none_given {x : Ex} (h : noEx x = true) : exGiven x = 0 := by unfold exGiven; rw [h]; rfl
mutual
theorem chkSt_it : ∀ (s : St) (deep : Nat) (a a' : At), chkSt s deep a = .on a' → a'.it = a.it + stCount s ∧ a'.it ≤ 1024
  | .mk k nm t x y bd body ed els, deep, a, a', h => by
    have g := chkSt_on h
    have hfy := form_y g.form
    rw [chkSt] at h
    cases hi : itemC deep a.it with
    | error e => rw [hi] at h; cases h
    | ok it =>
      rw [hi] at h
      dsimp only at h
      obtain ⟨hi1, hi2, -⟩ := itemC_ok hi
      split at h
      · cases h
      · split at h
        · cases h
        · cases hx : (if k = 5 ∨ ((k = 1 ∨ k = 7) ∧ noEx x = true) then Chk.on ⟨a.p, it⟩ else chkXt x ⟨a.p, it⟩) with
          | bad p e => rw [hx] at h; cases h
          | on a1 =>
            rw [hx] at h
            dsimp only at h
            cases hy : (if k = 2 then chkXt y a1 else Chk.on a1) with
            | bad p e => rw [hy] at h; cases h
            | on a2 =>
              rw [hy] at h
              dsimp only at h
              cases hb : chkSts body (deep + 1) a2 with
              | bad p e => rw [hb] at h; cases h
              | on a3 =>
                rw [hb] at h
                have e1 : a1.it = it + exGiven x ∧ a1.it ≤ 1024 := by
                  by_cases hbare : k = 5 ∨ ((k = 1 ∨ k = 7) ∧ noEx x = true)
                  · rw [if_pos hbare] at hx
                    injection hx with hx
                    subst hx
                    have : noEx x = true := hbare.elim (fun h5 => hfy.2.1 h5) (fun h5 => h5.2)
                    rw [none_given this]
                    exact ⟨rfl, hi2⟩
                  · rw [if_neg hbare] at hx
                    obtain ⟨m, hm, rfl⟩ := chkXt_on hx
                    have := ex_given hm
                    have h2 := chkEx_ok x 1 it m hm
                    rw [this.2]
                    exact ⟨h2.1, h2.2.1⟩
                have e2 : a2.it = a1.it + exGiven y ∧ a2.it ≤ 1024 := by
                  by_cases hk2 : k = 2
                  · rw [if_pos hk2] at hy
                    obtain ⟨m, hm, rfl⟩ := chkXt_on hy
                    have := ex_given hm
                    have h2 := chkEx_ok y 1 a1.it m hm
                    rw [this.2]
                    exact ⟨h2.1, h2.2.1⟩
                  · rw [if_neg hk2] at hy
                    injection hy with hy
                    subst hy
                    have h0 : noEx y = true := hfy.1 hk2
                    rw [none_given h0]
                    exact ⟨rfl, e1.2⟩
                have e3 := chkSts_it body (deep + 1) a2 a3 hb e2.2
                have e4 := chkSts_it els (deep + 1) a3 a' h e3.2
                rw [stCount]
                omega
theorem chkSts_it : ∀ (l : List St) (deep : Nat) (a a' : At), chkSts l deep a = .on a' → a.it ≤ 1024 → a'.it = a.it + stCounts l ∧ a'.it ≤ 1024
  | [], deep, a, a', h, hi => by
    rw [chkSts] at h
    injection h with h
    subst h
    exact ⟨by rw [stCounts]; rfl, hi⟩
  | s :: r, deep, a, a', h, hi => by
    obtain ⟨a1, h1, h2⟩ := chkSts_on h
    have e1 := chkSt_it s deep _ a1 h1
    have e2 := chkSts_it r deep a1 a' h2 e1.2
    rw [stCounts]
    dsimp only at e1
    omega
end
theorem chkFls_ok : ∀ (l : List Fl) (i : Nat), chkFls i l = 0 → (l ≠ [] → i + l.length ≤ 16) ∧ ∀ f ∈ l, nameB f.nm = true ∧ tyForm f.t = 0
  | [], i, h => ⟨fun hh => absurd rfl hh, fun f hf => by cases hf⟩
  | f :: r, i, h => by
    rw [chkFls] at h
    split at h
    · cases h
    · next h1 =>
      split at h
      · cases h
      · next h2 =>
        split at h
        · next h3 => exact absurd h h3
        · next h3 =>
          obtain ⟨h4, h5⟩ := chkFls_ok r (i + 1) h
          refine ⟨fun _ => ?_, fun g hg => ?_⟩
          · cases r with
            | nil => simp; omega
            | cons z r => have := h4 (by simp); simp only [List.length_cons] at this ⊢; omega
          · rcases List.mem_cons.1 hg with rfl | hg
            · refine ⟨?_, Decidable.not_not.1 h3⟩
              cases hb : nameB g.nm with
              | true => rfl
              | false => exact absurd hb h2
            · exact h5 g hg
theorem joined_le (sep : List UInt8) (hs : sep.length ≤ 4) (n : Nat) : ∀ l : List (List UInt8), (∀ x ∈ l, x.length ≤ n) → (joined sep l).length ≤ (n + 4) * l.length
  | [], _ => by simp [joined]
  | [x], h => by have := h x (by simp); simp [joined]; omega
  | x :: y :: r, h => by
    have h1 := joined_le sep hs n (y :: r) (fun z hz => h z (by simp [hz]))
    have h2 := h x (by simp)
    rw [joined]
    simp only [List.length_append, List.length_cons] at h1 ⊢
    rw [show (n + 4) * (r.length + 1 + 1) = (n + 4) * (r.length + 1) + (n + 4) by rw [Nat.mul_add (n + 4) (r.length + 1) 1, Nat.mul_one]]
    omega
theorem flText_len {f : Fl} (h : nameB f.nm = true ∧ tyForm f.t = 0) : (flText f).length ≤ 70 := by
  have h1 := (nameB_len h.1).1
  have h2 := tyText_len h.2
  unfold flText
  simp only [List.length_append, List.length_cons, List.length_nil]; omega
theorem flsText_len {l : List Fl} (h : chkFls 0 l = 0) (sep : List UInt8) (hs : sep.length ≤ 4) : (flsText sep l).length ≤ 1200 := by
  obtain ⟨h1, h2⟩ := chkFls_ok l 0 h
  have h3 := joined_le sep hs 70 (l.map flText) (fun x hx => by
    obtain ⟨f, hf, rfl⟩ := List.mem_map.1 hx
    exact flText_len (h2 f hf))
  unfold flsText
  rw [List.length_map] at h3
  by_cases hl : l = []
  · subst hl; simp [joined]
  · have := h1 hl
    have : (70 + 4) * l.length ≤ (70 + 4) * 16 := Nat.mul_le_mul_left _ (by omega)
    omega

/-! ### the writer of programs -/
def fuHead (f : Fu) : List UInt8 := ([102, 117, 110, 99, 32] ++ (f.nm ++ [40])) ++ (flsText [44, 32] f.ps ++ ([41, 32] ++ ((if noTy f.t then [] else tyText f.t ++ [32]) ++ [123, 10])))
def wFus (acc : List UInt8) : List Fu → List UInt8
  | [] => acc
  | f :: r => wFus (wSts (acc ++ fuHead f) f.body [32, 32] ++ ([125] ++ [10])) r
def wThs (acc : List UInt8) : List Th → List UInt8
  | [] => acc
  | t :: r => wThs (wSts (acc ++ ([116, 104, 114, 101, 97, 100, 32] ++ [123, 10])) t.l [32, 32] ++ ([125] ++ [10])) r
def prHead (p : Pr) : List UInt8 := (p.rs.map reText).flatten ++ (p.ss.map shText).flatten
def wPr (p : Pr) : List UInt8 := wThs (wFus (prHead p) p.fs) p.ts
theorem fuText_is (f : Fu) : fuText f = fuHead f ++ (stTexts f.body [32, 32] ++ ([125] ++ [10])) := by
  unfold fuText fuHead blockText
  simp
theorem thText_is (t : Th) : thText t = ([116, 104, 114, 101, 97, 100, 32] ++ [123, 10]) ++ (stTexts t.l [32, 32] ++ ([125] ++ [10])) := by
  unfold thText blockText
  simp
theorem wFus_is : ∀ (l : List Fu) (acc : List UInt8), Wr acc (l.map fuText).flatten (wFus acc l) ∧ (wFus acc l).length ≤ acc.length + (l.map fuText).flatten.length
  | [], acc => ⟨.inl (by simp [wFus]), by simp [wFus]⟩
  | f :: r, acc => by
    rw [wFus, List.map_cons, List.flatten_cons, fuText_is]
    obtain ⟨a1, a2⟩ := wSts_is (acc ++ fuHead f) f.body [32, 32]
    obtain ⟨b1, b2⟩ := wFus_is r (wSts (acc ++ fuHead f) f.body [32, 32] ++ ([125] ++ [10]))
    refine ⟨?_, ?_⟩
    · exact (((Wr.app acc (fuHead f)).trans (a1.trans (.app _ _)))).trans b1
    · simp only [List.length_append] at *; omega
theorem wThs_is : ∀ (l : List Th) (acc : List UInt8), Wr acc (l.map thText).flatten (wThs acc l) ∧ (wThs acc l).length ≤ acc.length + (l.map thText).flatten.length
  | [], acc => ⟨.inl (by simp [wThs]), by simp [wThs]⟩
  | t :: r, acc => by
    rw [wThs, List.map_cons, List.flatten_cons, thText_is]
    obtain ⟨a1, a2⟩ := wSts_is (acc ++ ([116, 104, 114, 101, 97, 100, 32] ++ [123, 10])) t.l [32, 32]
    obtain ⟨b1, b2⟩ := wThs_is r (wSts (acc ++ ([116, 104, 114, 101, 97, 100, 32] ++ [123, 10])) t.l [32, 32] ++ ([125] ++ [10]))
    refine ⟨?_, ?_⟩
    · exact (((Wr.app acc _).trans (a1.trans (.app _ _)))).trans b1
    · simp only [List.length_append] at *; omega
theorem wPr_is (p : Pr) : Wr [] (prText p) (wPr p) := by
  unfold wPr prText
  have h1 := (wFus_is p.fs (prHead p)).1
  have h2 := (wThs_is p.ts (wFus (prHead p) p.fs)).1
  have := (Wr.app [] (prHead p)).trans (h1.trans h2)
  simpa [prHead] using this
/-- what show.Program answers out of what its writer holds -/
theorem showPr_of (p : Pr) (h : (faultOf p).2 = 0) : showPr p = if 65536 < (wPr p).length then ([], 3) else (wPr p, 0) := by
  unfold showPr
  rw [if_neg (by simpa using h)]
  rcases wPr_is p with e | ⟨h1, h2⟩
  · rw [e]; simp
  · rw [List.nil_append] at h2
    rw [if_pos h2, if_pos h1]

/-! ### bounds of a program that may be -/
structure PrGood (p : Pr) : Prop where
  recs : p.rs.length ≤ 16 ∧ ∀ r ∈ p.rs, nameB r.nm = true ∧ r.fs ≠ [] ∧ chkFls 0 r.fs = 0
  shs : p.ss.length ≤ 1024 ∧ ∀ f ∈ p.ss, chkFls 0 [f] = 0
  funs : p.fs.length ≤ 32 ∧ ∀ f ∈ p.fs, nameB f.nm = true ∧ chkFls 0 f.ps = 0 ∧ (noTy f.t = true ∨ tyForm f.t = 0) ∧ ∃ a a', chkSts f.body 1 a = .on a'
  thrs : p.ts.length ≤ 4 ∧ ∀ t ∈ p.ts, ∃ a a', chkSts t.l 1 a = .on a'
  items : itemsOf p ≤ 1024
theorem chkRes_ok : ∀ (l : List Re) (i : Nat) (a a' : At), chkRes i l a = .on a' → i ≤ 16 → i + l.length ≤ 16 ∧ (∀ r ∈ l, nameB r.nm = true ∧ r.fs ≠ [] ∧ chkFls 0 r.fs = 0) ∧ a'.it = a.it
  | [], i, a, a', h, hi => by
    rw [chkRes] at h; injection h with h; subst h
    exact ⟨by simpa using hi, fun r hr => (by cases hr), rfl⟩
  | r :: l, i, a, a', h, hi => by
    rw [chkRes] at h
    split at h
    · cases h
    · split at h
      · cases h
      · next h2 =>
        split at h
        · cases h
        · next h3 =>
          obtain ⟨e1, e2, e3⟩ := chkRes_ok l (i + 1) _ a' h (by omega)
          refine ⟨by simp only [List.length_cons]; omega, fun z hz => ?_, e3⟩
          rcases List.mem_cons.1 hz with rfl | hz
          · refine ⟨?_, fun e => h2 (.inr e), Decidable.not_not.1 h3⟩
            cases hb : nameB z.nm with
            | true => rfl
            | false => exact absurd (.inl hb) h2
          · exact e2 z hz
theorem chkShs_ok : ∀ (l : List Fl) (i : Nat) (a a' : At), chkShs i l a = .on a' → i ≤ 1024 → i + l.length ≤ 1024 ∧ (∀ f ∈ l, chkFls 0 [f] = 0) ∧ a'.it = a.it
  | [], i, a, a', h, hi => by
    rw [chkShs] at h; injection h with h; subst h
    exact ⟨by simpa using hi, fun r hr => (by cases hr), rfl⟩
  | f :: l, i, a, a', h, hi => by
    rw [chkShs] at h
    split at h
    · cases h
    · split at h
      · cases h
      · next h3 =>
        obtain ⟨e1, e2, e3⟩ := chkShs_ok l (i + 1) _ a' h (by omega)
        refine ⟨by simp only [List.length_cons]; omega, fun z hz => ?_, e3⟩
        rcases List.mem_cons.1 hz with rfl | hz
        · exact Decidable.not_not.1 h3
        · exact e2 z hz
theorem chkFus_ok : ∀ (l : List Fu) (i : Nat) (a a' : At), chkFus i l a = .on a' → i ≤ 32 → a.it ≤ 1024 → i + l.length ≤ 32 ∧ (∀ f ∈ l, nameB f.nm = true ∧ chkFls 0 f.ps = 0 ∧ (noTy f.t = true ∨ tyForm f.t = 0) ∧ ∃ a a', chkSts f.body 1 a = .on a') ∧ a'.it = a.it + (l.map fun f => stCounts f.body).sum ∧ a'.it ≤ 1024
  | [], i, a, a', h, hi, ha => by
    rw [chkFus] at h; injection h with h; subst h
    exact ⟨by simpa using hi, fun r hr => (by cases hr), by simp, ha⟩
  | f :: l, i, a, a', h, hi, ha => by
    rw [chkFus] at h
    split at h
    · cases h
    · split at h
      · cases h
      · next h1 =>
        split at h
        · cases h
        · next h2 =>
          split at h
          · cases h
          · next h3 =>
            cases hb : chkSts f.body 1 ⟨a.p + 1, a.it⟩ with
            | bad p e => rw [hb] at h; cases h
            | on a1 =>
              rw [hb] at h
              dsimp only at h
              have e0 := chkSts_it f.body 1 _ a1 hb ha
              dsimp only at e0
              obtain ⟨e1, e2, e3, e4⟩ := chkFus_ok l (i + 1) a1 a' h (by omega) e0.2
              refine ⟨by simp only [List.length_cons]; omega, fun z hz => ?_, by simp only [List.map_cons, List.sum_cons]; omega, e4⟩
              rcases List.mem_cons.1 hz with rfl | hz
              · refine ⟨?_, Decidable.not_not.1 h2, ?_, _, a1, hb⟩
                · cases hq : nameB z.nm with
                  | true => rfl
                  | false => exact absurd hq h1
                · cases hq : noTy z.t with
                  | true => exact .inl rfl
                  | false => exact .inr (Decidable.not_not.1 fun hh => h3 ⟨hq, hh⟩)
              · exact e2 z hz
theorem chkThs_ok : ∀ (l : List Th) (i : Nat) (a a' : At), chkThs i l a = .on a' → i ≤ 4 → a.it ≤ 1024 → i + l.length ≤ 4 ∧ (∀ t ∈ l, ∃ a a', chkSts t.l 1 a = .on a') ∧ a'.it = a.it + (l.map fun t => stCounts t.l).sum ∧ a'.it ≤ 1024
  | [], i, a, a', h, hi, ha => by
    rw [chkThs] at h; injection h with h; subst h
    exact ⟨by simpa using hi, fun r hr => (by cases hr), by simp, ha⟩
  | t :: l, i, a, a', h, hi, ha => by
    rw [chkThs] at h
    split at h
    · cases h
    · cases hb : chkSts t.l 1 ⟨a.p + 1, a.it⟩ with
      | bad p e => rw [hb] at h; cases h
      | on a1 =>
        rw [hb] at h
        dsimp only at h
        have e0 := chkSts_it t.l 1 _ a1 hb ha
        dsimp only at e0
        obtain ⟨e1, e2, e3, e4⟩ := chkThs_ok l (i + 1) a1 a' h (by omega) e0.2
        refine ⟨by simp only [List.length_cons]; omega, fun z hz => ?_, by simp only [List.map_cons, List.sum_cons]; omega, e4⟩
        rcases List.mem_cons.1 hz with rfl | hz
        · exact ⟨_, a1, hb⟩
        · exact e2 z hz
theorem bad_ne : ∀ (c : Chk), True := fun _ => trivial
theorem chkPr_on {p : Pr} {a : At} (h : chkPr p = .on a) : PrGood p := by
  unfold chkPr at h
  cases h1 : chkRes 0 p.rs ⟨-1, 0⟩ with
  | bad q e => rw [h1] at h; cases h
  | on a1 =>
    rw [h1] at h
    change (((chkShs 0 p.ss a1).bind (chkFus 0 p.fs)).bind (chkThs 0 p.ts)) = _ at h
    cases h2 : chkShs 0 p.ss a1 with
    | bad q e => rw [h2] at h; cases h
    | on a2 =>
      rw [h2] at h
      change ((chkFus 0 p.fs a2).bind (chkThs 0 p.ts)) = _ at h
      cases h3 : chkFus 0 p.fs a2 with
      | bad q e => rw [h3] at h; cases h
      | on a3 =>
        rw [h3] at h
        change chkThs 0 p.ts a3 = _ at h
        obtain ⟨b1, b2, b3⟩ := chkRes_ok p.rs 0 _ a1 h1 (by omega)
        obtain ⟨c1, c2, c3⟩ := chkShs_ok p.ss 0 a1 a2 h2 (by omega)
        dsimp only at b3
        obtain ⟨d1, d2, d3, d4⟩ := chkFus_ok p.fs 0 a2 a3 h3 (by omega) (by omega)
        obtain ⟨e1, e2, e3, e4⟩ := chkThs_ok p.ts 0 a3 a h (by omega) d4
        exact ⟨⟨by omega, b2⟩, ⟨by omega, c2⟩, ⟨by omega, d2⟩, ⟨by omega, e2⟩, by unfold itemsOf; omega⟩
end Go.Proofs.YtkklogikakcanaaDoor
namespace Go.Proofs.YtkklogikakcanaaDoor

theorem chkXt_nz {x : Ex} {a : At} {q e : Int} (h : chkXt x a = .bad q e) : e ≠ 0 := by
  unfold chkXt at h
  cases hx : chkEx x 1 a.it with
  | ok m => rw [hx] at h; cases h
  | error e' =>
    rw [hx] at h
    injection h with _ h
    subst h
    exact chkEx_ne x 1 a.it e' hx
mutual
theorem chkSt_nz : ∀ (s : St) (deep : Nat) (a : At) (q e : Int), chkSt s deep a = .bad q e → e ≠ 0
  | .mk k nm t x y bd body ed els, deep, a, q, e, h => by
    rw [chkSt] at h
    cases hi : itemC deep a.it with
    | error e' =>
      rw [hi] at h
      injection h with _ h
      rw [← h, itemC_err hi]
      decide
    | ok it =>
      rw [hi] at h
      dsimp only at h
      split at h
      · injection h with _ h
        omega
      · split at h
        · next hh =>
          injection h with _ h
          rw [← h]
          exact hh.2
        · cases hx : (if k = 5 ∨ ((k = 1 ∨ k = 7) ∧ noEx x = true) then Chk.on ⟨a.p, it⟩ else chkXt x ⟨a.p, it⟩) with
          | bad p' e' =>
            rw [hx] at h
            injection h with _ h
            subst h
            split at hx
            · cases hx
            · exact chkXt_nz hx
          | on a1 =>
            rw [hx] at h
            dsimp only at h
            cases hy : (if k = 2 then chkXt y a1 else Chk.on a1) with
            | bad p' e' =>
              rw [hy] at h
              injection h with _ h
              subst h
              split at hy
              · exact chkXt_nz hy
              · cases hy
            | on a2 =>
              rw [hy] at h
              dsimp only at h
              cases hb : chkSts body (deep + 1) a2 with
              | bad p' e' =>
                rw [hb] at h
                injection h with _ h
                subst h
                exact chkSts_nz body (deep + 1) a2 p' e' hb
              | on a3 =>
                rw [hb] at h
                exact chkSts_nz els (deep + 1) a3 q e h
theorem chkSts_nz : ∀ (l : List St) (deep : Nat) (a : At) (q e : Int), chkSts l deep a = .bad q e → e ≠ 0
  | [], deep, a, q, e, h => by rw [chkSts] at h; cases h
  | s :: r, deep, a, q, e, h => by
    rw [chkSts] at h
    cases hs : chkSt s deep ⟨a.p + 1, a.it⟩ with
    | bad p' e' =>
      rw [hs] at h
      injection h with _ h
      subst h
      exact chkSt_nz s deep _ p' e' hs
    | on a1 =>
      rw [hs] at h
      exact chkSts_nz r deep a1 q e h
end
theorem chkRes_nz : ∀ (l : List Re) (i : Nat) (a : At) (q e : Int), chkRes i l a = .bad q e → e ≠ 0
  | [], i, a, q, e, h => by rw [chkRes] at h; cases h
  | r :: l, i, a, q, e, h => by
    rw [chkRes] at h
    split at h
    · injection h with _ h; omega
    · split at h
      · injection h with _ h; omega
      · split at h
        · next hh => injection h with _ h; rw [← h]; exact hh
        · exact chkRes_nz l (i + 1) _ q e h
theorem chkShs_nz : ∀ (l : List Fl) (i : Nat) (a : At) (q e : Int), chkShs i l a = .bad q e → e ≠ 0
  | [], i, a, q, e, h => by rw [chkShs] at h; cases h
  | r :: l, i, a, q, e, h => by
    rw [chkShs] at h
    split at h
    · injection h with _ h; omega
    · split at h
      · next hh => injection h with _ h; rw [← h]; exact hh
      · exact chkShs_nz l (i + 1) _ q e h
theorem chkFus_nz : ∀ (l : List Fu) (i : Nat) (a : At) (q e : Int), chkFus i l a = .bad q e → e ≠ 0
  | [], i, a, q, e, h => by rw [chkFus] at h; cases h
  | f :: l, i, a, q, e, h => by
    rw [chkFus] at h
    split at h
    · injection h with _ h; omega
    · split at h
      · injection h with _ h; omega
      · split at h
        · next hh => injection h with _ h; rw [← h]; exact hh
        · split at h
          · next hh => injection h with _ h; rw [← h]; exact hh.2
          · cases hs : chkSts f.body 1 ⟨a.p + 1, a.it⟩ with
            | bad p' e' =>
              rw [hs] at h
              injection h with _ h
              subst h
              exact chkSts_nz _ _ _ p' e' hs
            | on a1 =>
              rw [hs] at h
              exact chkFus_nz l (i + 1) a1 q e h
theorem chkThs_nz : ∀ (l : List Th) (i : Nat) (a : At) (q e : Int), chkThs i l a = .bad q e → e ≠ 0
  | [], i, a, q, e, h => by rw [chkThs] at h; cases h
  | t :: l, i, a, q, e, h => by
    rw [chkThs] at h
    split at h
    · injection h with _ h; omega
    · cases hs : chkSts t.l 1 ⟨a.p + 1, a.it⟩ with
      | bad p' e' =>
        rw [hs] at h
        injection h with _ h
        subst h
        exact chkSts_nz _ _ _ p' e' hs
      | on a1 =>
        rw [hs] at h
        exact chkThs_nz l (i + 1) a1 q e h
theorem bind_nz {c : Chk} {f : At → Chk} (h1 : ∀ q e, c = .bad q e → e ≠ 0) (h2 : ∀ a q e, f a = .bad q e → e ≠ 0) (q e : Int) (h : c.bind f = .bad q e) : e ≠ 0 := by
  cases c with
  | bad q' e' => exact h1 q e h
  | on a => exact h2 a q e h
theorem chkPr_nz (p : Pr) (q e : Int) (h : chkPr p = .bad q e) : e ≠ 0 := by
  unfold chkPr at h
  exact bind_nz (bind_nz (bind_nz (fun q e => chkRes_nz _ _ _ q e) (fun a q e => chkShs_nz _ _ _ q e)) (fun a q e => chkFus_nz _ _ _ q e)) (fun a q e => chkThs_nz _ _ _ q e) q e h
end Go.Proofs.YtkklogikakcanaaDoor
namespace Go.Proofs.YtkklogikakcanaaDoor

theorem flat_le {α : Type} (f : α → List UInt8) (n : Nat) : ∀ l : List α, (∀ x ∈ l, (f x).length ≤ n) → (l.map f).flatten.length ≤ n * l.length
  | [], _ => by simp
  | x :: r, h => by
    have h1 := flat_le f n r (fun y hy => h y (by simp [hy]))
    have h2 := h x (by simp)
    rw [List.map_cons, List.flatten_cons, List.length_append, List.length_cons, Nat.mul_succ]
    omega
theorem sum_mem {α : Type} (f : α → Nat) : ∀ (l : List α) (x : α), x ∈ l → f x ≤ (l.map f).sum
  | y :: r, x, h => by
    rw [List.map_cons, List.sum_cons]
    rcases List.mem_cons.1 h with rfl | h
    · omega
    · have := sum_mem f r x h; omega
/-- every number of a program's statements is one of 64 bits -/
structure PrNum (p : Pr) : Prop where
  fs : ∀ f ∈ p.fs, ∀ s ∈ f.body, StNum s
  ts : ∀ t ∈ p.ts, ∀ s ∈ t.l, StNum s
theorem reText_len {r : Re} (h : nameB r.nm = true ∧ r.fs ≠ [] ∧ chkFls 0 r.fs = 0) : (reText r).length ≤ 1300 := by
  have h1 := (nameB_len h.1).1
  have h2 := flsText_len h.2.2 [59, 10, 32, 32] (by decide)
  unfold reText
  simp only [List.length_append, List.length_cons, List.length_nil]
  omega
theorem shText_len {f : Fl} (h : chkFls 0 [f] = 0) : (shText f).length ≤ 100 := by
  have h1 := flText_len ((chkFls_ok [f] 0 h).2 f (by simp))
  unfold shText
  simp only [List.length_append, List.length_cons, List.length_nil]
  omega
theorem fuHead_len {f : Fu} (h : nameB f.nm = true ∧ chkFls 0 f.ps = 0 ∧ (noTy f.t = true ∨ tyForm f.t = 0)) : (fuHead f).length ≤ 1300 := by
  have h1 := (nameB_len h.1).1
  have h2 := flsText_len h.2.1 [44, 32] (by decide)
  unfold fuHead
  rcases h.2.2 with h3 | h3
  · rw [if_pos h3]
    simp only [List.length_append, List.length_cons, List.length_nil]
    omega
  · have h4 := tyText_len h3
    split <;> (simp only [List.length_append, List.length_cons, List.length_nil]; omega)
theorem prText_len {p : Pr} (h : PrGood p) (hn : PrNum p) : (prText p).length ≤ 20000000 := by
  have hit := h.items
  unfold itemsOf at hit
  have a1 := flat_le reText 1300 p.rs (fun r hr => reText_len (h.recs.2 r hr))
  have a2 := flat_le shText 100 p.ss (fun f hf => shText_len (h.shs.2 f hf))
  have a3 := flat_le fuText 320000 p.fs (fun f hf => by
    obtain ⟨g1, g2, g3, a, a', g4⟩ := h.funs.2 f hf
    have e1 := fuHead_len (f := f) ⟨g1, g2, g3⟩
    have e2 := stTexts_len f.body 1 a a' [32, 32] (hn.fs f hf) g4 (by decide)
    have e3 := sum_mem (fun f : Fu => stCounts f.body) p.fs f hf
    rw [fuText_is]
    simp only [List.length_append, List.length_cons, List.length_nil]
    omega)
  have a4 := flat_le thText 320000 p.ts (fun t ht => by
    obtain ⟨a, a', g4⟩ := h.thrs.2 t ht
    have e2 := stTexts_len t.l 1 a a' [32, 32] (hn.ts t ht) g4 (by decide)
    have e3 := sum_mem (fun t : Th => stCounts t.l) p.ts t ht
    rw [thText_is]
    simp only [List.length_append, List.length_cons, List.length_nil]
    omega)
  have b1 : 1300 * p.rs.length ≤ 1300 * 16 := Nat.mul_le_mul_left _ h.recs.1
  have b2 : 100 * p.ss.length ≤ 100 * 1024 := Nat.mul_le_mul_left _ h.shs.1
  have b3 : 320000 * p.fs.length ≤ 320000 * 32 := Nat.mul_le_mul_left _ h.funs.1
  have b4 : 320000 * p.ts.length ≤ 320000 * 4 := Nat.mul_le_mul_left _ h.thrs.1
  unfold prText
  simp only [List.length_append]
  omega
end Go.Proofs.YtkklogikakcanaaDoor
namespace Go.Proofs.YtkklogikakcanaaDoor

mutual
/-- what is left behind an expression's operands -/
def lfE : Ex → Int → Int
  | .mk _ _ _ _ _ args, left => lfL args (left - (args.length : Int))
def lfL : List Ex → Int → Int
  | [], left => left
  | x :: r, left => if left < 0 then left else lfL r (lfE x left)
end
mutual
/-- .. behind a statement -/
def lfS : St → Int → Int
  | .mk _ _ _ x y _ body _ els, left =>
    if lfE x left < 0 then lfE x left
    else if lfE y (lfE x left) < 0 then lfE y (lfE x left)
    else if lfSs body (lfE y (lfE x left) - (body.length : Int)) < 0 then lfSs body (lfE y (lfE x left) - (body.length : Int))
    else lfSs els (lfSs body (lfE y (lfE x left) - (body.length : Int)) - (els.length : Int))
def lfSs : List St → Int → Int
  | [], left => left
  | s :: r, left => if left < 0 then left else lfSs r (lfS s left)
end
mutual
theorem lfE_le : ∀ (x : Ex) (left : Int), lfE x left ≤ left ∧ (0 ≤ lfE x left → lfE x left = left + 1 - (exCount x : Int))
  | .mk k n nm t d args, left => by
    rw [lfE, exCount]
    obtain ⟨h1, h2⟩ := lfL_le args (left - (args.length : Int))
    exact ⟨by omega, fun h => by have := h2 h; push_cast; omega⟩
theorem lfL_le : ∀ (l : List Ex) (left : Int), lfL l left ≤ left ∧ (0 ≤ lfL l left → lfL l left = left + (l.length : Int) - (exCounts l : Int))
  | [], left => by rw [lfL, exCounts]; exact ⟨by omega, fun _ => by simp⟩
  | x :: r, left => by
    rw [lfL, exCounts]
    split
    · next h0 => exact ⟨by omega, fun h => by omega⟩
    · obtain ⟨h1, h2⟩ := lfE_le x left
      obtain ⟨h3, h4⟩ := lfL_le r (lfE x left)
      refine ⟨by omega, fun h => ?_⟩
      have h5 := h4 h
      have h6 := h2 (by omega)
      simp only [List.length_cons]
      push_cast; omega
end
mutual
/-- how many expressions and statements, all counted -/
def stAll : St → Nat
  | .mk _ _ _ x y _ body _ els => 1 + ((exCount x - 1) + ((exCount y - 1) + (stAlls body + stAlls els)))
def stAlls : List St → Nat
  | [] => 0
  | s :: r => stAll s + stAlls r
end
mutual
theorem lfS_le : ∀ (s : St) (left : Int), lfS s left ≤ left ∧ (0 ≤ lfS s left → lfS s left = left + 1 - (stAll s : Int))
  | .mk k nm t x y bd body ed els, left => by
    rw [lfS, stAll]
    obtain ⟨x1, x2⟩ := lfE_le x left
    obtain ⟨y1, y2⟩ := lfE_le y (lfE x left)
    obtain ⟨b1, b2⟩ := lfSs_le body (lfE y (lfE x left) - (body.length : Int))
    obtain ⟨e1, e2⟩ := lfSs_le els (lfSs body (lfE y (lfE x left) - (body.length : Int)) - (els.length : Int))
    have px := exCount_pos x
    have py := exCount_pos y
    split
    · exact ⟨by omega, fun h => by omega⟩
    · split
      · exact ⟨by omega, fun h => by omega⟩
      · split
        · exact ⟨by omega, fun h => by omega⟩
        · refine ⟨by omega, fun h => ?_⟩
          have := e2 h
          have := b2 (by omega)
          have := y2 (by omega)
          have := x2 (by omega)
          push_cast
          omega
theorem lfSs_le : ∀ (l : List St) (left : Int), lfSs l left ≤ left ∧ (0 ≤ lfSs l left → lfSs l left = left + (l.length : Int) - (stAlls l : Int))
  | [], left => by rw [lfSs, stAlls]; exact ⟨by omega, fun _ => by simp⟩
  | s :: r, left => by
    rw [lfSs, stAlls]
    split
    · next h0 => exact ⟨by omega, fun h => by omega⟩
    · obtain ⟨h1, h2⟩ := lfS_le s left
      obtain ⟨h3, h4⟩ := lfSs_le r (lfS s left)
      refine ⟨by omega, fun h => ?_⟩
      have h5 := h4 h
      have h6 := h2 (by omega)
      simp only [List.length_cons]
      push_cast; omega
end
/-- how much was taken off -/
def cntS (left : Int) : Int := if left < 0 then 262145 else 262144 - left
def exSizeS (x : Ex) : Int := cntS (lfE x 262144)
theorem exSize_small {x : Ex} (h : exSizeS x ≤ 262144) : exCount x ≤ 262145 := by
  unfold exSizeS cntS at h
  obtain ⟨h1, h2⟩ := lfE_le x 262144
  split at h
  · omega
  · have := h2 (by omega); omega
theorem exSize_range (x : Ex) : 0 ≤ exSizeS x ∧ exSizeS x ≤ 262145 := by
  unfold exSizeS cntS
  obtain ⟨h1, h2⟩ := lfE_le x 262144
  split <;> omega
end Go.Proofs.YtkklogikakcanaaDoor
