/-
  A region that draws its order, of operations that call nothing, inside a fence of whatever kind: by what it does outside. No program in sight.
-/
import Derived.Test.YtjaegddnikkibaaGreatDoorRegion
import Derived.OrdersIn
import Derived.TacticsIn
set_option linter.unusedVariables false
set_option linter.unusedSimpArgs false
namespace Go.Proofs.YtjaegddnikkibaaGreatDoor
open Go

/-- an operation that calls nothing -/
def calmB (o : Oper) : Bool :=
  match o.op with
  | .move _ | .assign _ | .pick _ _ _ | .load _ _ | .store _ _ _ | .binOp _ _ _ _ _ | .unOp _ _ _ | .fieldAddr _ _ _ | .indexAddr _ _ _ => true
  | .call c => match c.callee with
    | .builtin .min | .builtin .len => true
    | _ => false
  | _ => false

def CalmR (r : Result Next) : Prop := (∃ v w, r = .ok (.value v) w) ∨ (∃ w, r = .ok .skip w) ∨ ∃ h w, r = .halt h w
theorem calm_v (P : Program) (w : World) (s : Sem Value) : CalmR ((do pure (.value (← s)) : Sem Next).run P w) := by
  rw [Sem.run_bind]
  cases h : s.run P w with
  | ok v w' => exact Or.inl ⟨v, w', by simp [Result.andThen]⟩
  | halt x w' => exact Or.inr (Or.inr ⟨x, w', by simp [Result.andThen]⟩)
theorem calm_u (P : Program) (w : World) (s : Sem Unit) : CalmR ((do s; pure .skip : Sem Next).run P w) := by
  rw [Sem.run_bind]
  cases h : s.run P w with
  | ok v w' => exact Or.inr (Or.inl ⟨w', by simp [Result.andThen]⟩)
  | halt x w' => exact Or.inr (Or.inr ⟨x, w', by simp [Result.andThen]⟩)
theorem calm_pure (P : Program) (w : World) (v : Value) : CalmR ((pure (.value v) : Sem Next).run P w) := Or.inl ⟨v, w, by simp⟩

theorem calm_exec {o : Oper} (h : calmB o = true) (P : Program) (ρ : Operand → Value) (w : World) : CalmR ((execOp ρ o).run P w) ∧ o.about P w ρ = none ∧ ∀ c, o.op ≠ .defer c := by
  unfold calmB at h
  cases ho : o.op
  all_goals rw [ho] at h
  all_goals first | (simp at h; done) | skip
  case move => exact ⟨by simp only [execOp, ho]; exact calm_pure _ _ _, by simp [Oper.about, ho], fun c => by simp⟩
  case assign => exact ⟨by simp only [execOp, ho]; exact calm_pure _ _ _, by simp [Oper.about, ho], fun c => by simp⟩
  case pick c a b =>
    refine ⟨?_, by simp [Oper.about, ho], fun c => by simp⟩
    simp only [execOp, ho]
    rw [Sem.run_bind]
    cases (asBool (ρ c)).run P w with
    | ok v w' => exact Or.inl ⟨if v then ρ a else ρ b, w', by simp [Result.andThen]⟩
    | halt x w' => exact Or.inr (Or.inr ⟨x, w', by simp [Result.andThen]⟩)
  case load => exact ⟨by simp only [execOp, ho]; exact calm_v _ _ _, by simp [Oper.about, ho], fun c => by simp⟩
  case store => exact ⟨by simp only [execOp, ho]; exact calm_u _ _ _, by simp [Oper.about, ho], fun c => by simp⟩
  case binOp => exact ⟨by simp only [execOp, ho]; exact calm_v _ _ _, by simp [Oper.about, ho], fun c => by simp⟩
  case unOp => exact ⟨by simp only [execOp, ho]; exact calm_v _ _ _, by simp [Oper.about, ho], fun c => by simp⟩
  case fieldAddr => exact ⟨by simp only [execOp, ho]; exact calm_v _ _ _, by simp [Oper.about, ho], fun c => by simp⟩
  case indexAddr => exact ⟨by simp only [execOp, ho]; exact calm_v _ _ _, by simp [Oper.about, ho], fun c => by simp⟩
  case call c =>
    cases hc : c.callee with
    | builtin b =>
      simp only [hc] at h
      refine ⟨?_, by simp [Oper.about, ho, resolve, hc, Target.leads], fun c => by simp⟩
      simp only [execOp, ho, resolve, hc, Sem.run_bind, Sem.run_pure, Result.andThen_ok, invoke]
      cases b
      all_goals first | (simp at h; done) | skip
      case min => exact calm_v _ _ _
      case len => exact calm_v _ _ _
    | invoke _ _ => simp [hc] at h
    | value _ => simp [hc] at h

section
variable {F : Fence} {n : Nat} {P : Program} {ops : Array Oper} {Q : Exit → Act → World → Prop} {md : Region.Mode}
theorem wpOpIn_calm {i : Nat} {K : Act → World → Prop} {a : Act} {w : World} (hc : ∀ o, ops[i]? = some o → calmB o = true) (hno : ¬ LetsOut Q) (h : wpOp P ops Q i K a w) : wpOpIn F n P ops Q i K a w := by
  unfold wpOp at h
  unfold wpOpIn
  cases ho : ops[i]? with
  | none => rw [ho] at h; exact h
  | some o =>
    simp only [ho] at h
    obtain ⟨hR, hab, hdf⟩ := calm_exec (hc o ho) P a.eval w
    have hfn : ∀ f, o.about P w a.eval = some f → F.fn f := fun f hf => by rw [hab] at hf; cases hf
    by_cases hw : Region.wanted o (yielded ops a.tmps) = true
    · simp only [hw, if_true] at h ⊢
      rcases h with h | ⟨-, h⟩
      · refine ⟨hfn, ?_⟩
        rw [Oper.semAt_eq _ _ _ hdf]
        unfold Oper.wp at h
        rcases hR with ⟨v, w', hr⟩ | ⟨w', hr⟩ | ⟨x, w', hr⟩
        · rw [hr] at h ⊢; exact h
        · rw [hr] at h ⊢; exact h
        · rw [hr] at h ⊢
          cases x <;> exact h
      · exact absurd h hno
    · simp only [hw] at h ⊢
      exact ⟨hfn, h⟩
theorem wpAnyIn_calm (hc : ∀ (i : Nat) (o : Oper), ops[i]? = some o → calmB o = true) (hno : ¬ LetsOut Q) : ∀ (fuel : Nat) (listed : Array Bool) (a : Act) (w : World), wpAny P md ops Q fuel listed a w → wpAnyIn F n P md ops Q fuel listed a w
  | 0, _, _, _, h => h
  | fuel + 1, _, _, _, h => ⟨h.1, fun i hi => wpOpIn_calm (hc i) hno (wpOp_mono (fun a' w' h' => wpAnyIn_calm hc hno fuel _ a' w' h') (h.2 i hi))⟩
theorem all_calm (h : ops.all calmB = true) : ∀ (i : Nat) (o : Oper), ops[i]? = some o → calmB o = true := fun i o ho => by
  rw [Array.all_eq_true_iff_forall_mem] at h
  exact h o (Array.mem_of_getElem? ho)
theorem wpIn_region_L {S : World → Prop} {l : Nat} {id : Nat} {a : Act} {w : World} (hcalm : ops.all calmB = true) (hno : ∀ a w, ¬ Q .outgrown a w) (hm : P.follows .mixedOrders = true) (hS : S w.drew)
    (h : S w.drew → wpAnyL P .any ops Q S l ops.size (Array.replicate ops.size false) a w.drew) : (Code.region id ops true).wpIn F n P Q a w :=
  wpIn_region_any hm (wpAnyIn_calm (all_calm hcalm) (fun ⟨a, w, h⟩ => hno a w h) _ _ _ _ (wpAny_of_L _ _ _ _ (h hS)))
/-- what lies behind, where nothing panics -/
def onlyN (Q : Exit → Act → World → Prop) : Exit → Act → World → Prop
  | .normal, a, w => Q .normal a w
  | _, _, _ => False
theorem wp_region_Ln {S : World → Prop} {l : Nat} {id : Nat} {a : Act} {w : World} (hm : P.follows .mixedOrders = true) (hS : S w.drew)
    (h : S w.drew → wpAnyL P .any ops (onlyN Q) S l ops.size (Array.replicate ops.size false) a w.drew) : (Code.region id ops true).wp P Q a w :=
  Code.wp_mono (fun e a w h => by cases e <;> first | exact h | exact h.elim) (wp_region_L hm hS h)
end
end Go.Proofs.YtjaegddnikkibaaGreatDoor
