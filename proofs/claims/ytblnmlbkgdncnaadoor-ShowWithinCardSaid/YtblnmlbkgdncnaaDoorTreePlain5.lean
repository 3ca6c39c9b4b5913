/-
  What is found wrong is never nothing. Plain.
-/
import Derived.Test.YtblnmlbkgdncnaaDoorTreePlain4
set_option linter.unusedVariables false
set_option linter.unusedSimpArgs false
namespace Go.Proofs.YtblnmlbkgdncnaaDoor

theorem chkXt_nz {x : Ex} {a : At} {q e : Int} (h : chkXt x a = .bad q e) : e ≠ 0 := by
  unfold chkXt at h
  cases hx : chkEx x 1 a.it with
  | ok m => rw [hx] at h; cases h
  | error e' =>
    rw [hx] at h
    injection h with _ h
    subst h
    exact chkEx_ne x 1 a.it e' hx
mutual
theorem chkSt_nz : ∀ (s : St) (deep : Nat) (a : At) (q e : Int), chkSt s deep a = .bad q e → e ≠ 0
  | .mk k nm t x y bd body ed els, deep, a, q, e, h => by
    rw [chkSt] at h
    cases hi : itemC deep a.it with
    | error e' =>
      rw [hi] at h
      injection h with _ h
      rw [← h, itemC_err hi]
      decide
    | ok it =>
      rw [hi] at h
      dsimp only at h
      split at h
      · injection h with _ h
        omega
      · split at h
        · next hh =>
          injection h with _ h
          rw [← h]
          exact hh.2
        · cases hx : (if k = 5 ∨ ((k = 1 ∨ k = 7) ∧ noEx x = true) then Chk.on ⟨a.p, it⟩ else chkXt x ⟨a.p, it⟩) with
          | bad p' e' =>
            rw [hx] at h
            injection h with _ h
            subst h
            split at hx
            · cases hx
            · exact chkXt_nz hx
          | on a1 =>
            rw [hx] at h
            dsimp only at h
            cases hy : (if k = 2 then chkXt y a1 else Chk.on a1) with
            | bad p' e' =>
              rw [hy] at h
              injection h with _ h
              subst h
              split at hy
              · exact chkXt_nz hy
              · cases hy
            | on a2 =>
              rw [hy] at h
              dsimp only at h
              cases hb : chkSts body (deep + 1) a2 with
              | bad p' e' =>
                rw [hb] at h
                injection h with _ h
                subst h
                exact chkSts_nz body (deep + 1) a2 p' e' hb
              | on a3 =>
                rw [hb] at h
                exact chkSts_nz els (deep + 1) a3 q e h
theorem chkSts_nz : ∀ (l : List St) (deep : Nat) (a : At) (q e : Int), chkSts l deep a = .bad q e → e ≠ 0
  | [], deep, a, q, e, h => by rw [chkSts] at h; cases h
  | s :: r, deep, a, q, e, h => by
    rw [chkSts] at h
    cases hs : chkSt s deep ⟨a.p + 1, a.it⟩ with
    | bad p' e' =>
      rw [hs] at h
      injection h with _ h
      subst h
      exact chkSt_nz s deep _ p' e' hs
    | on a1 =>
      rw [hs] at h
      exact chkSts_nz r deep a1 q e h
end
theorem chkRes_nz : ∀ (l : List Re) (i : Nat) (a : At) (q e : Int), chkRes i l a = .bad q e → e ≠ 0
  | [], i, a, q, e, h => by rw [chkRes] at h; cases h
  | r :: l, i, a, q, e, h => by
    rw [chkRes] at h
    split at h
    · injection h with _ h; omega
    · split at h
      · injection h with _ h; omega
      · split at h
        · next hh => injection h with _ h; rw [← h]; exact hh
        · exact chkRes_nz l (i + 1) _ q e h
theorem chkShs_nz : ∀ (l : List Fl) (i : Nat) (a : At) (q e : Int), chkShs i l a = .bad q e → e ≠ 0
  | [], i, a, q, e, h => by rw [chkShs] at h; cases h
  | r :: l, i, a, q, e, h => by
    rw [chkShs] at h
    split at h
    · injection h with _ h; omega
    · split at h
      · next hh => injection h with _ h; rw [← h]; exact hh
      · exact chkShs_nz l (i + 1) _ q e h
theorem chkFus_nz : ∀ (l : List Fu) (i : Nat) (a : At) (q e : Int), chkFus i l a = .bad q e → e ≠ 0
  | [], i, a, q, e, h => by rw [chkFus] at h; cases h
  | f :: l, i, a, q, e, h => by
    rw [chkFus] at h
    split at h
    · injection h with _ h; omega
    · split at h
      · injection h with _ h; omega
      · split at h
        · next hh => injection h with _ h; rw [← h]; exact hh
        · split at h
          · next hh => injection h with _ h; rw [← h]; exact hh.2
          · cases hs : chkSts f.body 1 ⟨a.p + 1, a.it⟩ with
            | bad p' e' =>
              rw [hs] at h
              injection h with _ h
              subst h
              exact chkSts_nz _ _ _ p' e' hs
            | on a1 =>
              rw [hs] at h
              exact chkFus_nz l (i + 1) a1 q e h
theorem chkThs_nz : ∀ (l : List Th) (i : Nat) (a : At) (q e : Int), chkThs i l a = .bad q e → e ≠ 0
  | [], i, a, q, e, h => by rw [chkThs] at h; cases h
  | t :: l, i, a, q, e, h => by
    rw [chkThs] at h
    split at h
    · injection h with _ h; omega
    · cases hs : chkSts t.l 1 ⟨a.p + 1, a.it⟩ with
      | bad p' e' =>
        rw [hs] at h
        injection h with _ h
        subst h
        exact chkSts_nz _ _ _ p' e' hs
      | on a1 =>
        rw [hs] at h
        exact chkThs_nz l (i + 1) a1 q e h
theorem bind_nz {c : Chk} {f : At → Chk} (h1 : ∀ q e, c = .bad q e → e ≠ 0) (h2 : ∀ a q e, f a = .bad q e → e ≠ 0) (q e : Int) (h : c.bind f = .bad q e) : e ≠ 0 := by
  cases c with
  | bad q' e' => exact h1 q e h
  | on a => exact h2 a q e h
theorem chkPr_nz (p : Pr) (q e : Int) (h : chkPr p = .bad q e) : e ≠ 0 := by
  unfold chkPr at h
  exact bind_nz (bind_nz (bind_nz (fun q e => chkRes_nz _ _ _ q e) (fun a q e => chkShs_nz _ _ _ q e)) (fun a q e => chkFus_nz _ _ _ q e)) (fun a q e => chkThs_nz _ _ _ q e) q e h
end Go.Proofs.YtblnmlbkgdncnaaDoor
