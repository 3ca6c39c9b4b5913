/-
  An expression alone, and in a program of one thread that prints it, plain.
-/
import Derived.Test.YtblnmlbkgdncnaaDoorTreePlain4
set_option linter.unusedVariables false
set_option linter.unusedSimpArgs false
namespace Go.Proofs.YtblnmlbkgdncnaaDoor

/-- the program of one thread that prints an expression -/
structure AloneIs (p : Pr) (x : Ex) : Prop where
  rs : p.rs = []
  ss : p.ss = []
  fs : p.fs = []
  ts : ∃ d y bd ed, p.ts = [⟨d, [.mk 6 [] ⟨0, [], 0⟩ x y bd [] ed []]⟩] ∧ noEx y = true
theorem noEx_fault {x : Ex} (h : noEx x = true) : exFault x = 1 := by
  obtain ⟨k, n, nm, t, d, args⟩ := x
  unfold noEx at h
  simp only [Bool.and_eq_true, decide_eq_true_eq] at h
  obtain ⟨h0, -⟩ := h
  change k = 0 at h0
  subst h0
  unfold exFault
  rw [chkEx]
  rfl
/-- the check of such a program -/
theorem alone_fault {p : Pr} {x : Ex} (h : AloneIs p x) : (faultOf p).2 = (match chkEx x 1 1 with | .error e => e | .ok _ => 0) := by
  obtain ⟨d, y, bd, ed, ht, hy⟩ := h.ts
  unfold faultOf chkPr
  rw [h.rs, h.ss, h.fs, ht, chkRes]
  change (match ((chkShs 0 [] ⟨-1, 0⟩).bind (chkFus 0 [])).bind (chkThs 0 _) with | .bad q e => (q, e) | .on _ => (0, 0)).2 = _
  rw [chkShs]
  change (match (chkFus 0 [] ⟨-1, 0⟩).bind (chkThs 0 _) with | .bad q e => (q, e) | .on _ => (0, 0)).2 = _
  rw [chkFus]
  change (match chkThs 0 _ ⟨-1, 0⟩ with | .bad q e => (q, e) | .on _ => (0, 0)).2 = _
  rw [chkThs, if_neg (by decide)]
  dsimp only
  rw [chkSts, chkSt]
  have hi : itemC 1 0 = .ok 1 := rfl
  dsimp only
  rw [hi]
  dsimp only
  have hf : stForm (.mk 6 [] ⟨0, [], 0⟩ x y bd [] ed []) = true := by
    unfold stForm
    simp only [St.k, St.nm, St.t, St.x, St.y, St.body, St.els, hy]
    rfl
  rw [if_neg (by rw [hf]; decide), if_neg (by decide), if_neg (fun hh => hh.elim (fun h5 => by omega) (fun h5 => h5.1.elim (fun h6 => by omega) (fun h6 => by omega)))]
  unfold chkXt
  dsimp only
  cases hx : chkEx x 1 1 with
  | error e => rfl
  | ok m =>
    dsimp only
    rw [if_neg (by decide)]
    dsimp only
    simp only [chkSts, chkThs]
theorem alone_items {p : Pr} {x : Ex} (h : AloneIs p x) : itemsOf p = 1 + exGiven x := by
  obtain ⟨d, y, bd, ed, ht, hy⟩ := h.ts
  unfold itemsOf
  rw [h.fs, ht]
  simp [stCounts, stCount, none_given hy]
theorem alone_text {p : Pr} {x : Ex} (h : AloneIs p x) : prText p = [116, 104, 114, 101, 97, 100, 32, 123, 10, 32, 32, 112, 114, 105, 110, 116, 32] ++ (exText x ++ [59, 10, 125, 10]) := by
  obtain ⟨d, y, bd, ed, ht, hy⟩ := h.ts
  unfold prText
  rw [h.rs, h.ss, h.fs, ht]
  simp [thText, blockText, stTexts, stText]
theorem exFault_cases (x : Ex) : (∃ m, chkEx x 1 0 = .ok m ∧ exFault x = 0) ∨ (∃ e, chkEx x 1 0 = .error e ∧ exFault x = e ∧ e ≠ 0) := by
  unfold exFault
  cases h : chkEx x 1 0 with
  | ok m => exact .inl ⟨m, rfl, rfl⟩
  | error e => exact .inr ⟨e, rfl, rfl, chkEx_ne x 1 0 e h⟩
/-- what ShowWithin says -/
theorem within_plain {p : Pr} {x : Ex} (h : AloneIs p x) (hn : ExNum x) :
    ((showEx x).2 = 0 → (showPr p).2 = 0 → (showPr p).1 = [116, 104, 114, 101, 97, 100, 32, 123, 10, 32, 32, 112, 114, 105, 110, 116, 32] ++ ((showEx x).1 ++ [59, 10, 125, 10]) ∧ 2 ≤ itemsOf p) ∧
    ((showEx x).2 = 0 → (showPr p).2 ≠ 0 → (showPr p).2 = 3 ∧ (showPr p).1 = [] ∧ (1024 < itemsOf p ∨ 65506 < (showEx x).1.length)) ∧
    ((showEx x).2 ≠ 0 → ((showPr p).2 = (showEx x).2 ∨ (1024 < itemsOf p ∧ (showPr p).2 = 3)) ∧ (showEx x).1 = [] ∧ (showPr p).1 = []) := by
  have hF := alone_fault h
  have hI := alone_items h
  have hT := alone_text h
  have hsh := chkEx_shift x 1 0 (by omega)
  have hmore : (showPr p).2 ≠ 0 ∨ (faultOf p).2 = 0 := by
    by_cases hz : (faultOf p).2 = 0
    · exact .inr hz
    · refine .inl ?_
      unfold showPr
      rw [if_pos hz]; exact hz
  rcases exFault_cases x with ⟨m, hm, he⟩ | ⟨e, hm, he, hne⟩
  · obtain ⟨g1, g2⟩ := ex_given hm
    obtain ⟨k1, k2, -⟩ := chkEx_ok x 1 0 m hm
    have hlen := exText_len x 1 0 m hn hm
    have hpos := exCount_pos x
    have sE : showEx x = if 65536 < (exText x).length then ([], 3) else (exText x, 0) := by unfold showEx; rw [if_neg (by simpa using he)]
    by_cases hbig : 65536 < (exText x).length
    · omega
    · rw [if_neg hbig] at sE
      rw [sE, hI, g2]
      dsimp only
      refine ⟨fun _ hf => ?_, fun _ hf => ?_, fun hh => absurd rfl hh⟩
      · refine ⟨?_, by omega⟩
        have hz := hmore.resolve_left (fun hh => hh hf)
        have sP : showPr p = if 65536 < (prText p).length then ([], 3) else (prText p, 0) := by unfold showPr; rw [if_neg (by simpa using hz)]
        rw [sP] at hf ⊢
        by_cases hb : 65536 < (prText p).length
        · rw [if_pos hb] at hf; cases hf
        · rw [if_neg hb]; exact hT
      · by_cases hz : (faultOf p).2 = 0
        · have sP : showPr p = if 65536 < (prText p).length then ([], 3) else (prText p, 0) := by unfold showPr; rw [if_neg (by simpa using hz)]
          rw [sP] at hf ⊢
          by_cases hb : 65536 < (prText p).length
          · rw [if_pos hb]
            refine ⟨rfl, rfl, .inr ?_⟩
            rw [hT] at hb
            simp only [List.length_append, List.length_cons, List.length_nil] at hb
            omega
          · rw [if_neg hb] at hf; exact absurd rfl hf
        · have sP : showPr p = ([], (faultOf p).2) := by unfold showPr; rw [if_pos hz]
          rw [sP]
          dsimp only
          rcases hsh with h1 | ⟨h1, h2⟩
          · rw [hm] at h1
            by_cases hm1 : m + 1 ≤ 1024
            · rw [show exLim (.ok m) = .ok (m + 1) from if_pos hm1] at h1
              rw [h1] at hF
              exact absurd hF hz
            · rw [show exLim (.ok m) = .error 3 from if_neg hm1] at h1
              rw [h1] at hF
              exact ⟨hF, rfl, .inl (by omega)⟩
          · rw [h1] at hF
            exact ⟨hF, rfl, .inl (by omega)⟩
  · have sE : showEx x = ([], e) := by unfold showEx; rw [if_pos (by rw [he]; exact hne), he]
    rw [sE]
    dsimp only
    refine ⟨fun hh => absurd hh hne, fun hh => absurd hh hne, fun _ => ?_⟩
    have hz : (faultOf p).2 = e ∨ (1024 < itemsOf p ∧ (faultOf p).2 = 3) := by
      rcases hsh with h1 | ⟨h1, h2⟩
      · rw [hm] at h1
        change _ = Except.error e at h1
        rw [h1] at hF
        exact .inl hF
      · rw [h1] at hF
        refine .inr ⟨?_, hF⟩
        have : noEx x = false := by
          cases hq : noEx x with
          | false => rfl
          | true =>
            exfalso
            obtain ⟨k, n, nm, t, d, args⟩ := x
            unfold noEx at hq
            simp only [Bool.and_eq_true, decide_eq_true_eq] at hq
            obtain ⟨h0, -⟩ := hq
            change k = 0 at h0
            subst h0
            rw [chkEx] at h1
            cases h1
        rw [hI]
        unfold exGiven
        rw [this]
        simp only [Bool.false_eq_true, ↓reduceIte]
        omega
    have hzn : (faultOf p).2 ≠ 0 := by
      rcases hz with h1 | ⟨-, h1⟩
      · rw [h1]; exact hne
      · rw [h1]; decide
    have sP : showPr p = ([], (faultOf p).2) := by unfold showPr; rw [if_pos hzn]
    rw [sP]
    exact ⟨hz, rfl, rfl⟩
end Go.Proofs.YtblnmlbkgdncnaaDoor
