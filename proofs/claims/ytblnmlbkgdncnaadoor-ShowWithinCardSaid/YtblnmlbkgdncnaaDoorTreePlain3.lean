/-
  The language's trees, plain: what a check that finds nothing wrong says; how long the text of statements is; what the writer holds that leaves off beyond the greatest length.
-/
import Derived.Test.YtblnmlbkgdncnaaDoorTreePlain2
set_option linter.unusedVariables false
set_option linter.unusedSimpArgs false
namespace Go.Proofs.YtblnmlbkgdncnaaDoor

/-! ### a check that finds nothing wrong -/
structure StGood (s : St) (deep : Nat) (a a' : At) : Prop where
  dp : deep ≤ 16
  form : stForm s = true
  ty : s.k = 1 → tyForm s.t = 0
  x : ¬ (s.k = 5 ∨ ((s.k = 1 ∨ s.k = 7) ∧ noEx s.x = true)) → ∃ it m, chkEx s.x 1 it = .ok m
  y : s.k = 2 → ∃ it m, chkEx s.y 1 it = .ok m
  lists : ∃ a2 a3, chkSts s.body (deep + 1) a2 = .on a3 ∧ chkSts s.els (deep + 1) a3 = .on a'
theorem chkXt_on {x : Ex} {a a' : At} (h : chkXt x a = .on a') : ∃ m, chkEx x 1 a.it = .ok m ∧ a' = ⟨a.p, m⟩ := by
  unfold chkXt at h
  cases hx : chkEx x 1 a.it with
  | error e => rw [hx] at h; cases h
  | ok m => rw [hx] at h; injection h with h; exact ⟨m, rfl, h.symm⟩
theorem chkSt_on {s : St} {deep : Nat} {a a' : At} (h : chkSt s deep a = .on a') : StGood s deep a a' := by
  obtain ⟨k, nm, t, x, y, bd, body, ed, els⟩ := s
  rw [chkSt] at h
  cases hi : itemC deep a.it with
  | error e => rw [hi] at h; cases h
  | ok it =>
    rw [hi] at h
    dsimp only at h
    obtain ⟨-, -, hd⟩ := itemC_ok hi
    split at h
    · cases h
    · next hf =>
      split at h
      · cases h
      · next ht =>
        cases hx : (if k = 5 ∨ ((k = 1 ∨ k = 7) ∧ noEx x = true) then Chk.on ⟨a.p, it⟩ else chkXt x ⟨a.p, it⟩) with
        | bad p e => rw [hx] at h; cases h
        | on a1 =>
          rw [hx] at h
          dsimp only at h
          cases hy : (if k = 2 then chkXt y a1 else Chk.on a1) with
          | bad p e => rw [hy] at h; cases h
          | on a2 =>
            rw [hy] at h
            dsimp only at h
            cases hb : chkSts body (deep + 1) a2 with
            | bad p e => rw [hb] at h; cases h
            | on a3 =>
              rw [hb] at h
              refine ⟨hd, ?_, ?_, ?_, ?_, a2, a3, hb, h⟩
              · cases hq : stForm (.mk k nm t x y bd body ed els) with
                | true => rfl
                | false => exact absurd hq hf
              · intro hk
                exact Decidable.not_not.1 fun hh => ht ⟨hk, hh⟩
              · intro hn
                replace hn : ¬ (k = 5 ∨ ((k = 1 ∨ k = 7) ∧ noEx x = true)) := hn
                rw [if_neg hn] at hx
                obtain ⟨m, hm, -⟩ := chkXt_on hx
                exact ⟨_, m, hm⟩
              · intro hk
                replace hk : k = 2 := hk
                rw [if_pos hk] at hy
                obtain ⟨m, hm, -⟩ := chkXt_on hy
                exact ⟨_, m, hm⟩
theorem chkSts_on {s : St} {r : List St} {deep : Nat} {a a' : At} (h : chkSts (s :: r) deep a = .on a') : ∃ a1, chkSt s deep ⟨a.p + 1, a.it⟩ = .on a1 ∧ chkSts r deep a1 = .on a' := by
  rw [chkSts] at h
  cases hs : chkSt s deep ⟨a.p + 1, a.it⟩ with
  | bad p e => rw [hs] at h; cases h
  | on a1 => rw [hs] at h; exact ⟨a1, rfl, h⟩
theorem ex_given {x : Ex} {deep it m : Nat} (h : chkEx x deep it = .ok m) : noEx x = false ∧ exGiven x = exCount x := by
  have hn : noEx x = false := by
    obtain ⟨-, -, -, hf, -⟩ := chkEx_ok x deep it m h
    obtain ⟨q, named, ha, -⟩ := exForm_ok hf
    unfold noEx
    by_cases hk : x.k = 0
    · rw [hk] at ha; exact absurd (show arity 0 = none from rfl) (by rw [ha]; intro h; cases h)
    · simp [hk]
  exact ⟨hn, by unfold exGiven; rw [hn]; rfl⟩
/-! ### how long the text of statements is -/
inductive StNum : St → Prop where
  | mk {k : Int} {nm : List UInt8} {t : Ty} {x y : Ex} {bd : Hd} {body : List St} {ed : Hd} {els : List St} (hx : ExNum x) (hy : ExNum y) (b : ∀ s, s ∈ body → StNum s) (e : ∀ s, s ∈ els → StNum s) : StNum (.mk k nm t x y bd body ed els)
theorem StNum.x {s : St} (h : StNum s) : ExNum s.x := by cases h; assumption
theorem StNum.y {s : St} (h : StNum s) : ExNum s.y := by cases h; assumption
theorem StNum.body {s : St} (h : StNum s) : ∀ z, z ∈ s.body → StNum z := by cases h; assumption
theorem StNum.els {s : St} (h : StNum s) : ∀ z, z ∈ s.els → StNum z := by cases h; assumption
theorem form_nm {s : St} (h : stForm s = true) : s.nm.length ≤ 16 := by
  unfold stForm at h
  split at h
  · simp only [Bool.and_eq_true, List.isEmpty_iff] at h; rw [h.2.1]; simp
  · split at h
    · cases h
    · split at h
      · cases h
      · split at h
        · simp only [Bool.and_eq_true] at h; exact (nameB_len h.1).1
        · simp only [Bool.and_eq_true, List.isEmpty_iff] at h; rw [h.1.1]; simp
theorem form_k {s : St} (h : stForm s = true) : 1 ≤ s.k ∧ s.k ≤ 8 := by
  unfold stForm at h
  split at h
  · omega
  · split at h
    · cases h
    · omega
/-- the text of an expression that has been checked -/
theorem given_len {x : Ex} (hn : ExNum x) (h : ∃ it m, chkEx x 1 it = .ok m) : noEx x = false ∧ (exText x).length + 2 ≤ 64 * exGiven x := by
  obtain ⟨it, m, h⟩ := h
  obtain ⟨h1, h2⟩ := ex_given h
  rw [h2]
  exact ⟨h1, exText_len x 1 it m hn h⟩
mutual
theorem stText_len : ∀ (s : St) (deep : Nat) (a a' : At) (ind : List UInt8), StNum s → chkSt s deep a = .on a' → ind.length ≤ 2 * deep → (stText s ind).length + ind.length + 1 ≤ 300 * stCount s
  | .mk k nm t x y bd body ed els, deep, a, a', ind, hn, h, hi => by
    have g := chkSt_on h
    obtain ⟨a2, a3, hb, he⟩ := g.lists
    have h1 := stTexts_len body (deep + 1) a2 a3 (ind ++ [32, 32]) hn.body hb (by simp; omega)
    have h2 := stTexts_len els (deep + 1) a3 a' (ind ++ [32, 32]) hn.els he (by simp; omega)
    have hnm := form_nm g.form
    have hk := form_k g.form
    have hd := g.dp
    have hty := fun hk => tyText_len (g.ty hk)
    have hx := fun hb => given_len hn.x (g.x hb)
    have hy := fun hk => given_len hn.y (g.y hk)
    dsimp only [St.nm, St.k, St.t, St.x, St.y, St.body, St.els] at *
    rw [stText, stCount]
    split
    · next hk1 =>
      have := hty hk1
      by_cases hne : noEx x = true
      · rw [if_pos hne]; simp only [List.length_append, List.length_cons, List.length_nil]; omega
      · have := (hx (fun hb => hb.elim (fun h5 => by omega) (fun h5 => hne h5.2))).2
        rw [if_neg hne]; simp only [List.length_append, List.length_cons, List.length_nil]; omega
    · next hk1 =>
      split
      · next hk2 =>
        have := (hx (fun hb => by omega)).2
        have := (hy hk2).2
        simp only [List.length_append, List.length_cons, List.length_nil]; omega
      · next hk2 =>
        split
        · next hk3 =>
          have := (hx (fun hb => by omega)).2
          by_cases hel : els.isEmpty = true
          · rw [if_pos hel]; simp only [List.length_append, List.length_cons, List.length_nil] at *; omega
          · rw [if_neg hel]; simp only [List.length_append, List.length_cons, List.length_nil] at *; omega
        · next hk3 =>
          split
          · next hk4 =>
            have := (hx (fun hb => by omega)).2
            simp only [List.length_append, List.length_cons, List.length_nil] at *; omega
          · next hk4 =>
            split
            · next hk5 => simp only [List.length_append, List.length_cons, List.length_nil] at *; omega
            · next hk5 =>
              split
              · next hk6 =>
                have := (hx (fun hb => by omega)).2
                simp only [List.length_append, List.length_cons, List.length_nil] at *; omega
              · next hk6 =>
                split
                · next hk7 =>
                  by_cases hne : noEx x = true
                  · rw [if_pos hne]; simp only [List.length_append, List.length_cons, List.length_nil]; omega
                  · have := (hx (fun hb => hb.elim (fun h5 => by omega) (fun h5 => hne h5.2))).2
                    rw [if_neg hne]; simp only [List.length_append, List.length_cons, List.length_nil]; omega
                · next hk7 =>
                  have := (hx (fun hb => by omega)).2
                  simp only [List.length_append, List.length_cons, List.length_nil]; omega
theorem stTexts_len : ∀ (l : List St) (deep : Nat) (a a' : At) (ind : List UInt8), (∀ s, s ∈ l → StNum s) → chkSts l deep a = .on a' → ind.length ≤ 2 * deep → (stTexts l ind).length ≤ 300 * stCounts l
  | [], deep, a, a', ind, hn, h, hi => by rw [stTexts]; simp
  | s :: r, deep, a, a', ind, hn, h, hi => by
    obtain ⟨a1, h1, h2⟩ := chkSts_on h
    have h3 := stText_len s deep _ a1 ind (hn s (by simp)) h1 hi
    have h4 := stTexts_len r deep a1 a' ind (fun z hz => hn z (by simp [hz])) h2 hi
    rw [stTexts, stCounts]
    simp only [List.length_append, List.length_cons, List.length_nil]
    omega
end
/-! ### the writer that leaves off -/
/-- what is held behind a text: all of it, or too much both ways -/
def Wr (acc T c : List UInt8) : Prop := c = acc ++ T ∨ (65536 < c.length ∧ 65536 < (acc ++ T).length)
theorem Wr.app (acc T : List UInt8) : Wr acc T (acc ++ T) := .inl rfl
theorem Wr.trans {a b c T U : List UInt8} (h : Wr a T b) (g : Wr b U c) : Wr a (T ++ U) c := by
  rcases h with rfl | ⟨h1, h2⟩
  · rcases g with rfl | ⟨g1, g2⟩
    · exact .inl (List.append_assoc _ _ _)
    · exact .inr ⟨g1, by rw [← List.append_assoc]; exact g2⟩
  · refine .inr ⟨?_, by rw [← List.append_assoc]; simp only [List.length_append] at *; omega⟩
    rcases g with rfl | ⟨g1, g2⟩
    · simp only [List.length_append] at *; omega
    · exact g1
mutual
/-- a statement's text behind what is held -/
def wSt : List UInt8 → St → List UInt8 → List UInt8
  | acc, .mk k nm t x y bd body ed els, ind =>
    if k = 3 then
      (if els.isEmpty then wSts (acc ++ (([105, 102, 32] ++ (exText x ++ [32])) ++ [123, 10])) body (ind ++ [32, 32]) ++ (ind ++ [125])
       else wSts (wSts (acc ++ (([105, 102, 32] ++ (exText x ++ [32])) ++ [123, 10])) body (ind ++ [32, 32]) ++ ((ind ++ [125]) ++ ([32, 101, 108, 115, 101, 32] ++ [123, 10]))) els (ind ++ [32, 32]) ++ (ind ++ [125]))
    else if k = 4 then wSts (acc ++ (([119, 104, 105, 108, 101, 32] ++ (exText x ++ [32])) ++ [123, 10])) body (ind ++ [32, 32]) ++ (ind ++ [125])
    else if k = 5 then wSts (acc ++ ([97, 116, 111, 109, 105, 99, 32] ++ [123, 10])) body (ind ++ [32, 32]) ++ (ind ++ [125])
    else acc ++ stText (.mk k nm t x y bd body ed els) ind
def wSts : List UInt8 → List St → List UInt8 → List UInt8
  | acc, [], _ => acc
  | acc, s :: r, ind => if 65536 < acc.length then acc else wSts (wSt (acc ++ ind) s ind ++ [10]) r ind
end
mutual
theorem wSt_is : ∀ (acc : List UInt8) (s : St) (ind : List UInt8), Wr acc (stText s ind) (wSt acc s ind) ∧ (wSt acc s ind).length ≤ acc.length + (stText s ind).length
  | acc, .mk k nm t x y bd body ed els, ind => by
    rw [wSt]
    by_cases h3 : k = 3
    · subst h3
      rw [if_pos rfl]
      have e : stText (.mk 3 nm t x y bd body ed els) ind = (([105, 102, 32] ++ (exText x ++ [32])) ++ [123, 10]) ++ (stTexts body (ind ++ [32, 32]) ++ ((ind ++ [125]) ++ (if els.isEmpty then [] else ([32, 101, 108, 115, 101, 32] ++ [123, 10]) ++ (stTexts els (ind ++ [32, 32]) ++ (ind ++ [125]))))) := by
        rw [stText, if_neg (by decide), if_neg (by decide), if_pos rfl]
        by_cases hel : els.isEmpty = true
        · rw [if_pos hel, if_pos hel]; simp
        · rw [if_neg hel, if_neg hel]; simp
      rw [e]
      obtain ⟨b1, b2⟩ := wSts_is (acc ++ (([105, 102, 32] ++ (exText x ++ [32])) ++ [123, 10])) body (ind ++ [32, 32])
      by_cases hel : els.isEmpty = true
      · rw [if_pos hel, if_pos hel, List.append_nil]
        refine ⟨((Wr.app acc _).trans (b1.trans (.app _ _))), ?_⟩
        simp only [List.length_append] at *; omega
      · rw [if_neg hel, if_neg hel]
        obtain ⟨c1, c2⟩ := wSts_is (wSts (acc ++ (([105, 102, 32] ++ (exText x ++ [32])) ++ [123, 10])) body (ind ++ [32, 32]) ++ ((ind ++ [125]) ++ ([32, 101, 108, 115, 101, 32] ++ [123, 10]))) els (ind ++ [32, 32])
        refine ⟨?_, ?_⟩
        · have := ((Wr.app acc _).trans (b1.trans ((Wr.app _ ((ind ++ [125]) ++ ([32, 101, 108, 115, 101, 32] ++ [123, 10]))).trans (c1.trans (.app _ (ind ++ [125]))))))
          simpa using this
        · simp only [List.length_append] at *; omega
    · rw [if_neg h3]
      by_cases h4 : k = 4
      · subst h4
        rw [if_pos rfl]
        have e : stText (.mk 4 nm t x y bd body ed els) ind = (([119, 104, 105, 108, 101, 32] ++ (exText x ++ [32])) ++ [123, 10]) ++ (stTexts body (ind ++ [32, 32]) ++ (ind ++ [125])) := by
          rw [stText, if_neg (by decide), if_neg (by decide), if_neg (by decide), if_pos rfl]
          simp
        rw [e]
        obtain ⟨b1, b2⟩ := wSts_is (acc ++ (([119, 104, 105, 108, 101, 32] ++ (exText x ++ [32])) ++ [123, 10])) body (ind ++ [32, 32])
        refine ⟨((Wr.app acc _).trans (b1.trans (.app _ _))), ?_⟩
        simp only [List.length_append] at *; omega
      · rw [if_neg h4]
        by_cases h5 : k = 5
        · subst h5
          rw [if_pos rfl]
          have e : stText (.mk 5 nm t x y bd body ed els) ind = ([97, 116, 111, 109, 105, 99, 32] ++ [123, 10]) ++ (stTexts body (ind ++ [32, 32]) ++ (ind ++ [125])) := by
            rw [stText, if_neg (by decide), if_neg (by decide), if_neg (by decide), if_neg (by decide), if_pos rfl]
            simp
          rw [e]
          obtain ⟨b1, b2⟩ := wSts_is (acc ++ ([97, 116, 111, 109, 105, 99, 32] ++ [123, 10])) body (ind ++ [32, 32])
          refine ⟨((Wr.app acc _).trans (b1.trans (.app _ _))), ?_⟩
          simp only [List.length_append] at *; omega
        · rw [if_neg h5]
          exact ⟨.app _ _, by simp⟩
theorem wSts_is : ∀ (acc : List UInt8) (l : List St) (ind : List UInt8), Wr acc (stTexts l ind) (wSts acc l ind) ∧ (wSts acc l ind).length ≤ acc.length + (stTexts l ind).length
  | acc, [], ind => by
    rw [wSts, stTexts]
    exact ⟨.inl (by simp), by simp⟩
  | acc, s :: r, ind => by
    rw [wSts, stTexts]
    by_cases hl : 65536 < acc.length
    · rw [if_pos hl]
      exact ⟨.inr ⟨hl, by simp only [List.length_append]; omega⟩, by omega⟩
    · rw [if_neg hl]
      obtain ⟨a1, a2⟩ := wSt_is (acc ++ ind) s ind
      obtain ⟨b1, b2⟩ := wSts_is (wSt (acc ++ ind) s ind ++ [10]) r ind
      refine ⟨(Wr.app acc ind).trans (a1.trans ((Wr.app _ [10]).trans b1)), ?_⟩
      simp only [List.length_append, List.length_cons, List.length_nil] at *; omega
end
end Go.Proofs.YtblnmlbkgdncnaaDoor
