import Derived.Test.YtkklogikakcanaaGreatDoorTreePlain2
set_option linter.unusedVariables false
set_option linter.unusedSimpArgs false
namespace Go.Proofs.YtkklogikakcanaaGreatDoor
def ExGood (x : Ex) : Prop := ∃ deep it m, chkEx x deep it = .ok m
theorem ExGood.form {x : Ex} (h : ExGood x) : exForm x = 0 := by
 obtain ⟨deep, it, m, h⟩ := h
 exact (chkEx_ok x deep it m h).2.2.2.1
theorem chkExs_mem : ∀ (l : List Ex) (deep it m : Nat), chkExs l deep it = .ok m → ∀ y ∈ l, ∃ it' m', chkEx y deep it' = .ok m'
 | [], _, _, _, _, y, hy => by simp at hy
 | x :: r, deep, it, m, h, y, hy => by
  rw [chkExs] at h
  cases hx : chkEx x deep it with
  | error e => rw [hx] at h; cases h
  | ok m1 =>
   rw [hx] at h
   rcases List.mem_cons.1 hy with rfl | hy
   ·exact ⟨_, _, hx⟩
   ·exact chkExs_mem r deep m1 m h y hy
theorem ExGood.sub {x : Ex} (h : ExGood x) : ∀ y ∈ x.args, ExGood y := fun y hy => by
 obtain ⟨deep, it, m, h⟩ := h
 obtain ⟨i, m', h2⟩ := chkExs_mem _ _ _ _ (chkEx_ok x deep it m h).2.2.2.2 y hy
 exact ⟨_, _, _, h2⟩
theorem ExGood.len {x : Ex} (h : ExGood x) : (x.k = 4 ∨ x.k = 8 ∨ x.k = 9 → x.args.length = 1) ∧ (x.k = 5 ∨ (10 ≤ x.k ∧ x.k ≤ 22) → x.args.length = 2) := by
 obtain ⟨m, nd, ha, hm, -⟩ := exForm_ok h.form
 unfold arity at ha
 refine ⟨fun hk => ?_, fun hk => ?_⟩
 ·split at ha <;> try omega
  split at ha <;> try omega
  split at ha
  ·injection ha with ha; injection ha with h1 h2; omega
  ·split at ha <;> try omega
   split at ha <;> try omega
   split at ha
   ·injection ha with ha; injection ha with h1 h2; omega
   ·omega
 ·split at ha <;> try omega
  split at ha <;> try omega
  split at ha <;> try omega
  split at ha
  ·injection ha with ha; injection ha with h1 h2; omega
  ·split at ha <;> try omega
   split at ha <;> try omega
   split at ha
   ·injection ha with ha; injection ha with h1 h2; omega
   ·omega
theorem ExGood.kind {x : Ex} (h : ExGood x) : 1 ≤ x.k ∧ x.k ≤ 22 := by
 obtain ⟨m, nd, ha, -⟩ := exForm_ok h.form
 unfold arity at ha
 repeat' split at ha
 all_goals first | cases ha; done | omega
end Go.Proofs.YtkklogikakcanaaGreatDoor
