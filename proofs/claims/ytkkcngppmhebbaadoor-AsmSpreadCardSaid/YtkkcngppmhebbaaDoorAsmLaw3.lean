/-
  The plain laws of layer 18: how a spread text is read. No program in sight.
-/
import Derived.Test.YtkkcngppmhebbaaDoorAsmLaw
set_option linter.unusedVariables false
set_option linter.unusedSimpArgs false
namespace Go.Proofs.YtkkcngppmhebbaaDoor
open Go.RowKit

/-- a line more behind each line feed: " # halt" -/
def haltL : List UInt8 := [32, 35, 32, 104, 97, 108, 116]
def spGo : Bool → List UInt8 → List UInt8
  | _, [] => []
  | rem, b :: l => (if b = 32 ∧ rem = false then [9] else []) ++ (b :: (if b = 10 then haltL ++ 10 :: spGo false l else spGo (rem || b == 35) l))
/-- the spread text -/
def spreadV (s : List UInt8) : List UInt8 := [35, 32, 120] ++ 10 :: spGo false s
def spLine : Bool → List UInt8 → List UInt8
  | _, [] => []
  | rem, b :: l => (if b = 32 ∧ rem = false then [9] else []) ++ (b :: spLine (rem || b == 35) l)
theorem words_spLine : ∀ (l cur : List UInt8), wordsGo cur (spLine false l) = wordsGo cur l
  | [], cur => rfl
  | b :: l, cur => by
    rw [spLine]
    by_cases h32 : b = 32
    · subst h32
      have e : spLine (false || (32 : UInt8) == 35) l = spLine false l := rfl
      rw [e, if_pos ⟨rfl, rfl⟩, List.singleton_append, wordsGo, if_neg (by decide), if_pos (.inr rfl), wordsGo, if_neg (by decide), if_pos (.inl rfl), words_spLine l [],
        wordsGo, if_neg (by decide), if_pos (.inl rfl)]
      simp [flushV]
    · rw [if_neg (fun h => h32 h.1), List.nil_append]
      by_cases h35 : b = 35
      · subst h35
        rw [wordsGo, if_pos rfl, wordsGo, if_pos rfl]
      · have e : (false || b == 35) = false := by simpa using h35
        rw [e, wordsGo, if_neg h35, wordsGo, if_neg h35, words_spLine l [], words_spLine l (cur ++ [b])]
theorem linesGo_cur : ∀ l : List UInt8, ∃ M0 Ms, ∀ cur, linesGo cur l = (cur ++ M0) :: Ms
  | [] => ⟨[], [], fun cur => by simp [linesGo]⟩
  | b :: l => by
    obtain ⟨M0, Ms, h⟩ := linesGo_cur l
    by_cases hb : b = 10
    · exact ⟨[], linesGo [] l, fun cur => by rw [linesGo, if_pos hb]; simp⟩
    · exact ⟨b :: M0, Ms, fun cur => by rw [linesGo, if_neg hb, h]; simp⟩
def spRest (Ls : List (List UInt8)) : List (List UInt8) := Ls.flatMap fun L => [haltL, spLine false L]
theorem lines_spGo : ∀ (s cur : List UInt8) (rem : Bool) (L0 : List UInt8) (Ls : List (List UInt8)), linesGo [] s = L0 :: Ls → linesGo cur (spGo rem s) = (cur ++ spLine rem L0) :: spRest Ls
  | [], cur, rem, L0, Ls, h => by
    rw [linesGo] at h
    injection h with h1 h2
    subst h1
    subst h2
    simp [spGo, linesGo, spLine, spRest]
  | b :: l, cur, rem, L0, Ls, h => by
    obtain ⟨M0, Ms, hm⟩ := linesGo_cur l
    have hm0 := hm []
    rw [List.nil_append] at hm0
    by_cases hb : b = 10
    · subst hb
      rw [linesGo, if_pos rfl, hm0] at h
      injection h with h1 h2
      subst h1
      subst h2
      rw [spGo, if_neg (fun h => absurd h.1 (by decide)), List.nil_append, if_pos rfl, linesGo, if_pos rfl, linesGo_line haltL [] _ (by decide), lines_spGo l [] false M0 Ms hm0]
      simp [spLine, spRest]
    · rw [linesGo, if_neg hb, hm] at h
      injection h with h1 h2
      subst h1
      subst h2
      rw [spGo, if_neg hb]
      have key : ∀ c, linesGo c (b :: spGo (rem || b == 35) l) = (c ++ (b :: spLine (rem || b == 35) M0)) :: spRest Ms := fun c => by
        rw [linesGo, if_neg hb, lines_spGo l (c ++ [b]) _ M0 Ms hm0]; simp
      by_cases hc : b = 32 ∧ rem = false
      · rw [if_pos hc, List.singleton_append, linesGo, if_neg (by decide), key]
        simp [spLine, hc]
      · rw [if_neg hc, List.nil_append, key]
        simp [spLine, hc]
def bump (r : Rd) : Rd := { r with goals := r.goals.map fun g => (g.1, 2 * g.2.1 + 1, g.2.2) }
theorem lineV_bump (r : Rd) (line : Nat) (ws : List (List UInt8)) : lineV (bump r) (2 * line + 1) ws = (match lineV r line ws with | .inl r' => .inl (bump r') | .inr e => .inr e) := by
  cases ws with
  | nil => rfl
  | cons w0 rest =>
    unfold lineV
    dsimp only
    by_cases h : rest = [] ∧ w0.getLast? = some 58
    · rw [if_pos h, if_pos h]
      by_cases hl : labelB w0.dropLast = true
      · rw [if_pos hl, if_pos hl]
        simp only [bump]
        cases lookV w0.dropLast r.labels <;> rfl
      · rw [if_neg hl, if_neg hl]
    · rw [if_neg h, if_neg h]
      unfold insV
      cases hc : cmdV w0 rest with
      | none => rfl
      | some p =>
        obtain ⟨o, g⟩ := p
        simp [bump, Function.comp_def]
theorem runV_bump : ∀ (Ls : List (List UInt8)) (L0 : List UInt8) (r : Rd) (line : Nat),
    runV (bump r) (2 * line + 1) (spLine false L0 :: spRest Ls) = (match runV r line (L0 :: Ls) with | .inl r' => .inl (bump r') | .inr (n, e) => .inr (2 * n + 1, e)) := by
  intro Ls
  induction Ls with
  | nil =>
    intro L0 r line
    have hw : wordsV (spLine false L0) = wordsV L0 := words_spLine L0 []
    rw [runV, hw, lineV_bump, runV]
    cases lineV r line (wordsV L0) <;> rfl
  | cons M Ms ih =>
    intro L0 r line
    have hw : wordsV (spLine false L0) = wordsV L0 := words_spLine L0 []
    rw [runV, hw, lineV_bump, runV]
    cases hl : lineV r line (wordsV L0) with
    | inr e => rfl
    | inl r' =>
      dsimp only
      have e : spRest (M :: Ms) = haltL :: spLine false M :: spRest Ms := rfl
      have hh : wordsV haltL = [] := by decide
      rw [e, runV, hh]
      have e2 : ∀ n, lineV (bump r') n [] = .inl (bump r') := fun n => rfl
      rw [e2]
      dsimp only
      rw [show 2 * line + 1 + 1 + 1 = 2 * (line + 1) + 1 by omega]
      exact ih M r' (line + 1)
theorem goalsV_bump (labels : List (List UInt8 × Nat)) : ∀ (gs : List (Nat × Nat × List UInt8)) (ops : List Cmd),
    goalsV labels ops (gs.map fun g => (g.1, 2 * g.2.1 + 1, g.2.2)) = (match goalsV labels ops gs with | .inl l => .inl l | .inr n => .inr (2 * n + 1))
  | [], ops => rfl
  | (i, line, w) :: gs, ops => by
    rw [List.map_cons, goalsV, goalsV]
    dsimp only
    cases lookV w labels with
    | none => rfl
    | some p => exact goalsV_bump labels gs _
theorem spGo_len : ∀ (s : List UInt8) (rem : Bool), (spGo rem s).length ≤ 10 * s.length
  | [], rem => by simp [spGo]
  | b :: l, rem => by
    have h1 := spGo_len l false
    have h2 := spGo_len l (rem || b == 35)
    rw [spGo]
    simp only [List.length_append, List.length_cons]
    have h3 : (if b = 32 ∧ rem = false then [(9 : UInt8)] else []).length ≤ 1 := by split <;> simp
    by_cases hb : b = 10
    · rw [if_pos hb]
      simp only [List.length_append, List.length_cons, haltL, List.length_nil]
      omega
    · rw [if_neg hb]
      omega
theorem spreadV_len {s : List UInt8} (h : s.length ≤ 6000) : (spreadV s).length ≤ 60004 := by
  have := spGo_len s false
  unfold spreadV
  simp only [List.length_append, List.length_cons, List.length_nil]
  omega
/-- HOW A SPREAD TEXT IS READ -/
theorem parse_spread {s : List UInt8} (h : s.length ≤ 6000) : parseA (spreadV s) = (match parseA s with | .inl l => .inl l | .inr (n, e) => .inr (2 * n + 1, e)) := by
  have hl := spreadV_len h
  obtain ⟨L0, Ls, hm⟩ := linesGo_cur s
  have hm0 := hm []
  rw [List.nil_append] at hm0
  have e1 : linesV (spreadV s) = [35, 32, 120] :: spLine false L0 :: spRest Ls := by
    unfold linesV spreadV
    rw [linesGo_line [35, 32, 120] [] _ (by decide), lines_spGo s [] false L0 Ls hm0]
    rfl
  have e2 : linesV s = L0 :: Ls := hm0
  unfold parseA
  rw [if_neg (by omega), if_neg (by omega), e1, e2, runV]
  have hw : wordsV [35, 32, 120] = [] := by decide
  have e3 : ∀ n, lineV ⟨[], [], []⟩ n (wordsV [35, 32, 120]) = .inl (bump ⟨[], [], []⟩) := fun n => by rw [hw]; rfl
  rw [e3]
  dsimp only
  have := runV_bump Ls L0 ⟨[], [], []⟩ 0
  rw [show 2 * 0 + 1 = 0 + 1 by omega] at this
  rw [this]
  cases runV ⟨[], [], []⟩ 0 (L0 :: Ls) with
  | inr p => rfl
  | inl r =>
    dsimp only
    have e4 : (bump r).labels = r.labels := rfl
    have e5 : (bump r).ops = r.ops := rfl
    have e6 : (bump r).goals = r.goals.map fun g => (g.1, 2 * g.2.1 + 1, g.2.2) := rfl
    rw [e4, e5, e6, goalsV_bump]
    cases goalsV r.labels r.ops r.goals <;> rfl
end Go.Proofs.YtkkcngppmhebbaaDoor
