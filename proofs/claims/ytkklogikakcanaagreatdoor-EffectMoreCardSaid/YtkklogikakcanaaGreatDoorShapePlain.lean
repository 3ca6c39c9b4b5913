import Derived.Test.YtkklogikakcanaaGreatDoorScopePlain
set_option linter.unusedVariables false
set_option linter.unusedSimpArgs false
namespace Go.Proofs.YtkklogikakcanaaGreatDoor
def wordsS (p : Pr) : Int × Int := if (typesCheck p).2 ≠ 0 then (0, 1) else ((p.ss.length : Int), 0)
def placeS (l : List Fl) (nm : List UInt8) : Int := match idxOf Fl.nm nm l with | some i => (i : Int) | none => -1
def sharedS (p : Pr) (nm : List UInt8) : Int × Int := if (typesCheck p).2 ≠ 0 then (0, 1) else if placeS p.ss nm < 0 then (0, 9) else (1 + placeS p.ss nm, 0)
def sizeS (p : Pr) (t : Ty) : Int × Int :=
 if (typesCheck p).2 ≠ 0 then (0, 1)
 else if tyForm t ≠ 0 then (0, 10)
 else if t.k = 1 then (0, 10)
 else if t.k = 3 ∧ t.nm = [] then (t.n, 0)
 else match recOf p t.nm with
  | none => (0, 9)
  | some i => if t.k = 3 then (t.n, 0) else ((((p.rs.map Re.fs).getD i []).length : Int), 0)
def offsetS (p : Pr) (nm fd : List UInt8) : Int × Int :=
 if (typesCheck p).2 ≠ 0 then (0, 1)
 else match recOf p nm with
  | none => (0, 9)
  | some i => if placeS ((p.rs.map Re.fs).getD i []) fd < 0 then (0, 9) else (placeS ((p.rs.map Re.fs).getD i []) fd, 0)
theorem types_ok {p : Pr} (h : (typesCheck p).2 = 0) : typesCheck p = (0, 0) ∧ (∃ a, chkPr p = .on a) ∧ ∃ b c, scHeads p = .on b ∧ scThs p p.ts b = .on c := by
 unfold typesCheck at h ⊢
 by_cases h0 : (faultOf p).2 = 0
 ·rw [if_neg (by simpa using h0)] at h ⊢
  have hp : ∃ a, chkPr p = .on a := by
   cases hq : chkPr p with
   | on a => exact ⟨a, rfl⟩
   | bad c e =>
    exfalso
    exact chkPr_ne p c e hq (by unfold faultOf at h0; rw [hq] at h0; exact h0)
  refine ⟨?_, hp, ?_⟩
  all_goals
   unfold scFault scPr at *
   cases hh : scHeads p with
   | bad c e =>
    rw [hh] at h
    exact absurd h (scHeads_ne p c e hh)
   | on b =>
    rw [hh] at h
    change (match scThs p p.ts b with | .bad q e => (q, e) | .on _ => (0, 0)).2 = _ at h
    cases ht : scThs p p.ts b with
    | bad c e =>
     rw [ht] at h
     exact absurd h (scThs_ne p p.ts b c e ht)
    | on c => first | (change (match scThs p p.ts b with | .bad q e => (q, e) | .on _ => (0, 0)) = _; rw [ht]; done) | exact ⟨b, c, rfl, ht⟩
 ·rw [if_pos h0] at h
  cases h
structure HeadsGood (p : Pr) : Prop where
 ss : (p.ss.map Fl.nm).Nodup
 rs : (p.rs.map Re.nm).Nodup
 fds : ∀ r ∈ p.rs, (r.fs.map Fl.nm).Nodup
end Go.Proofs.YtkklogikakcanaaGreatDoor
