/-
  What Tokens answers at any text, in one form; the code's Tokens has it.
-/
import Derived.Test.YthepjanojmemaaaGreatDoorLexTokens
import Derived.Test.YthepjanojmemaaaGreatDoorLexJoin
import Derived.Test.YthepjanojmemaaaGreatDoorRowKit
set_option linter.unusedVariables false
set_option linter.unusedSimpArgs false
namespace Go.Proofs.YthepjanojmemaaaGreatDoor
open Go.RowKit

/-- what is answered at any text: tokens, a line, an error -/
def lexV (s : List UInt8) : List Tok × Nat × Int :=
  if 65536 < s.length then ([], 0, 3) else
  match scan (s.length + 1) s 0 [] with
  | .bad n => ([], n, 5)
  | .ok t => (t, 0, 0)
theorem lexV_big {s : List UInt8} (h : 65536 < s.length) : lexV s = ([], 0, 3) := if_pos h
theorem lexV_bad {s : List UInt8} {n : Nat} (h : ¬ 65536 < s.length) (hs : Scans s 0 [] (.bad n)) : lexV s = ([], n, 5) := by
  unfold Scans at hs
  unfold lexV
  rw [if_neg h, hs]
theorem lexV_ok {s : List UInt8} {t : List Tok} (h : ¬ 65536 < s.length) (hs : Scans s 0 [] (.ok t)) : lexV s = (t, 0, 0) := by
  unfold Scans at hs
  unfold lexV
  rw [if_neg h, hs]

/-- tokens in a new row of their own -/
def TokU (s : List UInt8) (w : World) (e : Ending) (w' : World) : Prop :=
  Below w.heap.size w w' ∧ ∃ A c, e = .returned (.tuple #[.slice A (lexV s).1.length c, .int .i64 (lexV s).2.1, .int .i64 (lexV s).2.2]) ∧
    w'.ownsRow w.heap.size 67 4 (.slice A (lexV s).1.length c) (lexV s).1.length ((lexV s).1.flatMap Tok.cells)

theorem tokU_none {s : List UInt8} {w w' : World} {n : Nat} {c : Int} (h : lexV s = ([], n, c)) (hb : Below w.heap.size w w') : TokU s w (.returned (.tuple #[.slice none 0 0, .int .i64 n, .int .i64 c])) w' := by
  unfold TokU
  rw [h]
  exact ⟨hb, none, 0, rfl, World.ownsRow_nil _ _ _ _⟩
theorem tokU_row {s : List UInt8} {w w' : World} {v : Value} {t : List Tok} (h : lexV s = (t, 0, 0)) (hb : Below w.heap.size w w') (ho : w'.ownsRow w.heap.size 67 4 v t.length (t.flatMap Tok.cells)) :
    TokU s w (.returned (.tuple #[v, .int .i64 0, .int .i64 0])) w' := by
  unfold TokU
  rw [h]
  rcases ho.2 with ⟨rfl, hn⟩ | ⟨g, cap, cur, rfl, r⟩
  · have : t = [] := List.eq_nil_of_length_eq_zero hn
    subst this
    exact ⟨hb, none, 0, rfl, ho⟩
  · exact ⟨hb, _, cap, rfl, ho⟩

theorem lexV_len (s : List UInt8) : (lexV s).1.length ≤ 65536 := by
  unfold lexV
  split
  · exact Nat.zero_le _
  · rename_i h
    cases hs : scan (s.length + 1) s 0 [] with
    | bad n => exact Nat.zero_le _
    | ok t =>
      have := (scan_all (s.length + 1) s 0 [] t (by omega) hs (by simp)).2.2
      show t.length ≤ 65536
      simp only [List.length_nil] at this
      omega
theorem own_base0 {w : World} {B B' e size n : Nat} {v : Value} {xs : List Value} (h : w.ownsRow B e size v n xs) (hB : B' ≤ B) : w.ownsRow B' e size v n xs :=
  ⟨h.1, h.2.elim Or.inl fun ⟨g, cap, cur, a, b, c⟩ => Or.inr ⟨g, cap, cur, a, Nat.le_trans hB b, c⟩⟩
theorem tokens_u (s : List UInt8) (hs : s.length ≤ 140737488355328) (w : World) (G : LGlobs w) :
    Calls Tryz.prog 4 #[.string ⟨s.toArray⟩] w (TokU s w) := by
  by_cases h : 65536 < s.length
  · refine (tokens_big s hs h w).mono ?_
    rintro e w' ⟨rfl, rfl⟩
    exact tokU_none (n := 0) (c := 3) (lexV_big h) (Below.refl _ _)
  · refine (tokens_any s (by omega) w G).mono ?_
    rintro e w' ⟨hb, res, hr, hm⟩
    cases res with
    | bad n =>
      obtain rfl := hm
      exact tokU_none (c := 5) (lexV_bad h hr) hb
    | ok t =>
      obtain ⟨v, rfl, ho⟩ := hm
      exact tokU_row (lexV_ok h hr) hb (own_base0 ho (Nat.le_succ _))
end Go.Proofs.YthepjanojmemaaaGreatDoor
