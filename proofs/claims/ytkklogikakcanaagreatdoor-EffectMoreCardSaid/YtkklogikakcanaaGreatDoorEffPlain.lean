import Derived.Test.YtkklogikakcanaaGreatDoorScopePlain
import Derived.Test.YtkklogikakcanaaGreatDoorShapePlain
set_option linter.unusedVariables false
set_option linter.unusedSimpArgs false
open List renaming set_cons_zero → sl5, set_cons_succ → sl6, getElem?_cons_zero → sl8, getElem?_cons_succ → sl9
namespace Go.Proofs.YtkklogikakcanaaGreatDoor
open Go
structure EfS where
 does : List Nat
 st : List Nat
 ring : Bool
def efOwn (p : Pr) (k : Int) (nm : List UInt8) : Nat :=
 if k = 4 ∨ k = 5 ∨ k = 6 then 1 else if k = 3 then (if (shOf p nm).isSome then 1 else 0) else 0
def efCut (k : Int) (e : Nat) : Nat := if k = 5 then e &&& 6 else e
def efSt (k : Int) : Nat := if k = 5 then 6 else if k = 6 then 4 else 0
mutual
inductive EvX (p : Pr) : EfS → Ex → Nat → EfS → Prop
 | call {s s1 s2 : EfS} {k n : Int} {nm : List UInt8} {t : Ty} {d : Hd} {args : List Ex} {i e es : Nat} (hk : k = 7) (hi : funOf p nm = some i) (h : EvO p s i e s1) (hs : EvXs p s1 args es s2) : EvX p s (.mk k n nm t d args) (e ||| es) s2
 | other {s s2 : EfS} {k n : Int} {nm : List UInt8} {t : Ty} {d : Hd} {args : List Ex} {es : Nat} (hk : k ≠ 7) (hs : EvXs p s args es s2) : EvX p s (.mk k n nm t d args) (efOwn p k nm ||| es) s2
inductive EvXs (p : Pr) : EfS → List Ex → Nat → EfS → Prop
 | nil {s : EfS} : EvXs p s [] 0 s
 | cons {s s1 s2 : EfS} {x : Ex} {r : List Ex} {e es : Nat} (h : EvX p s x e s1) (hr : EvXs p s1 r es s2) : EvXs p s (x :: r) (e ||| es) s2
inductive EvSs (p : Pr) : EfS → List St → Nat → EfS → Prop
 | nil {s : EfS} : EvSs p s [] 0 s
 | cons {s s1 s2 s3 s4 s5 : EfS} {k : Int} {nm : List UInt8} {t : Ty} {x y : Ex} {bd ed : Hd} {body els r : List St} {eb ee ex ey er : Nat}
   (hb : EvSs p s body eb s1) (he : EvSs p s1 els ee s2) (hx : EvX p s2 x ex s3) (hy : EvX p s3 y ey s4) (hr : EvSs p s4 r er s5) :
   EvSs p s (.mk k nm t x y bd body ed els :: r) ((efCut k (eb ||| ee) ||| ((ex ||| ey) ||| efSt k)) ||| er) s5
inductive EvO (p : Pr) : EfS → Nat → Nat → EfS → Prop
 | fresh {s s1 : EfS} {i e : Nat} {f : Fu} (h0 : s.st[i]? = some 0) (hf : p.fs[i]? = some f) (h : EvSs p ⟨s.does, s.st.set i 1, s.ring⟩ f.body e s1) : EvO p s i e ⟨s1.does.set i e, s1.st.set i 2, s1.ring⟩
 | busy {s : EfS} {i : Nat} (h1 : s.st[i]? = some 1) : EvO p s i (s.does.getD i 0) ⟨s.does, s.st, true⟩
 | known {s : EfS} {i : Nat} (h2 : s.st[i]? = some 2) : EvO p s i (s.does.getD i 0) s
end
def EfGood (e : Nat) : Prop := e < 8 ∧ (e &&& 2 ≠ 0 → e &&& 4 ≠ 0)
instance (e : Nat) : Decidable (EfGood e) := by unfold EfGood; infer_instance
theorem efGood_or {a b : Nat} (ha : EfGood a) (hb : EfGood b) : EfGood (a ||| b) :=
 (by decide : ∀ a, a < 8 → ∀ b, b < 8 → EfGood a → EfGood b → EfGood (a ||| b)) a ha.1 b hb.1 ha hb
theorem efGood_cut {a : Nat} (k : Int) (ha : EfGood a) : EfGood (efCut k a) := by
 unfold efCut
 split
 ·exact (by decide : ∀ a, a < 8 → EfGood a → EfGood (a &&& 6)) a ha.1 ha
 ·exact ha
theorem efGood_own (p : Pr) (k : Int) (nm : List UInt8) : EfGood (efOwn p k nm) := by
 unfold efOwn
 split
 ·decide
 ·split
  ·split <;> decide
  ·decide
theorem efGood_st (k : Int) : EfGood (efSt k) := by
 unfold efSt
 split
 ·decide
 ·split <;> decide
abbrev EfS.Good (s : EfS) : Prop := ∀ e ∈ s.does, EfGood e
theorem EfS.Good.getD {s : EfS} (h : s.Good) (i : Nat) : EfGood (s.does.getD i 0) := by
 rw [List.getD_eq_getElem?_getD]
 cases hi : s.does[i]? with
 | none => show EfGood 0; decide
 | some e => exact h e (List.mem_of_getElem? hi)
mutual
theorem EvX.good {p : Pr} {s s2 : EfS} {x : Ex} {e : Nat} : EvX p s x e s2 → s.Good → EfGood e ∧ s2.Good
 | .call _ _ h hs, g => by
  have h1 := h.good g
  have h2 := hs.good h1.2
  exact ⟨efGood_or h1.1 h2.1, h2.2⟩
 | .other _ hs, g => by
  have h2 := hs.good g
  exact ⟨efGood_or (efGood_own _ _ _) h2.1, h2.2⟩
theorem EvXs.good {p : Pr} {s s2 : EfS} {l : List Ex} {e : Nat} : EvXs p s l e s2 → s.Good → EfGood e ∧ s2.Good
 | .nil, g => ⟨by decide, g⟩
 | .cons h hr, g => by
  have h1 := h.good g
  have h2 := hr.good h1.2
  exact ⟨efGood_or h1.1 h2.1, h2.2⟩
theorem EvSs.good {p : Pr} {s s2 : EfS} {l : List St} {e : Nat} : EvSs p s l e s2 → s.Good → EfGood e ∧ s2.Good
 | .nil, g => ⟨by decide, g⟩
 | .cons hb he hx hy hr, g => by
  have h1 := hb.good g
  have h2 := he.good h1.2
  have h3 := hx.good h2.2
  have h4 := hy.good h3.2
  have h5 := hr.good h4.2
  exact ⟨efGood_or (efGood_or (efGood_cut _ (efGood_or h1.1 h2.1)) (efGood_or (efGood_or h3.1 h4.1) (efGood_st _))) h5.1, h5.2⟩
theorem EvO.good {p : Pr} {s s2 : EfS} {i e : Nat} : EvO p s i e s2 → s.Good → EfGood e ∧ s2.Good
 | .fresh _ _ h, g => by
  have h1 := h.good g
  refine ⟨h1.1, fun u hu => ?_⟩
  rcases List.mem_or_eq_of_mem_set hu with hu | rfl
  ·exact h1.2 u hu
  ·exact h1.1
 | .busy _, g => ⟨g.getD _, g⟩
 | .known _, g => ⟨g.getD _, g⟩
end
def BSub (a b : Nat) : Prop := a ||| b = b
theorem BSub.refl (a : Nat) : BSub a a := Nat.or_self a
theorem BSub.trans {a b c : Nat} (h : BSub a b) (h2 : BSub b c) : BSub a c := by
 unfold BSub at *
 rw [← h2, ← Nat.or_assoc, h]
theorem BSub.zero (a : Nat) : BSub 0 a := Nat.zero_or a
theorem BSub.or {a b c d : Nat} (h : BSub a b) (h2 : BSub c d) : BSub (a ||| c) (b ||| d) := by
 unfold BSub at *
 rw [Nat.or_assoc, ← Nat.or_assoc c b d, Nat.or_comm c b, Nat.or_assoc b c d, h2, ← Nat.or_assoc, h]
abbrev EfS.Inv (s : EfS) : Prop := ∀ i : Nat, s.st[i]? ≠ some 2 → s.does.getD i 0 = 0
structure EfLe (s s' : EfS) : Prop where
 inv : s'.Inv
 le : ∀ i : Nat, BSub (s.does.getD i 0) (s'.does.getD i 0)
 one : ∀ i : Nat, s.st[i]? = some 1 → s'.st[i]? = some 1
 two : ∀ i : Nat, s.st[i]? = some 2 → s'.st[i]? = some 2
 len : s'.does.length = s.does.length ∧ s'.st.length = s.st.length
theorem EfLe.refl {s : EfS} (h : s.Inv) : EfLe s s := ⟨h, fun _ => .refl _, fun _ h => h, fun _ h => h, rfl, rfl⟩
theorem EfLe.trans {a b c : EfS} (h : EfLe a b) (h2 : EfLe b c) : EfLe a c :=
 ⟨h2.inv, fun i => (h.le i).trans (h2.le i), fun i hi => h2.one i (h.one i hi), fun i hi => h2.two i (h.two i hi), h2.len.1.trans h.len.1, h2.len.2.trans h.len.2⟩
theorem getD_set_ne {l : List Nat} {i j e : Nat} (h : i ≠ j) : (l.set i e).getD j 0 = l.getD j 0 := by
 rw [List.getD_eq_getElem?_getD, List.getD_eq_getElem?_getD, List.getElem?_set_ne h]
theorem inv_look {s : EfS} {i : Nat} (h0 : s.st[i]? = some 0) (g : s.Inv) : EfS.Inv ⟨s.does, s.st.set i 1, s.ring⟩ := fun j hj => by
 by_cases hji : i = j
 ·subst hji
  exact g i (by rw [h0]; decide)
 ·dsimp only at hj
  rw [List.getElem?_set_ne hji] at hj
  exact g j hj
theorem EfLe.even {s s' : EfS} (h : EfLe s s') (hl : s.does.length = s.st.length) : s'.does.length = s'.st.length := h.len.1.trans (hl.trans h.len.2.symm)
mutual
theorem EvX.le {p : Pr} {s s2 : EfS} {x : Ex} {e : Nat} : EvX p s x e s2 → s.Inv → EfLe s s2
 | .call _ _ h hs, g => (h.le g).trans (hs.le (h.le g).inv)
 | .other _ hs, g => hs.le g
theorem EvXs.le {p : Pr} {s s2 : EfS} {l : List Ex} {e : Nat} : EvXs p s l e s2 → s.Inv → EfLe s s2
 | .nil, g => .refl g
 | .cons h hr, g => (h.le g).trans (hr.le (h.le g).inv)
theorem EvSs.le {p : Pr} {s s2 : EfS} {l : List St} {e : Nat} : EvSs p s l e s2 → s.Inv → EfLe s s2
 | .nil, g => .refl g
 | .cons hb he hx hy hr, g => by
  have h1 := hb.le g
  have h2 := h1.trans (he.le h1.inv)
  have h3 := h2.trans (hx.le h2.inv)
  have h4 := h3.trans (hy.le h3.inv)
  exact h4.trans (hr.le h4.inv)
theorem EvO.le {p : Pr} {s s2 : EfS} {i e : Nat} : EvO p s i e s2 → s.Inv → EfLe s s2
 | .fresh (s1 := s1) h0 _ h, g => by
  have hil := (List.getElem?_eq_some_iff.1 h0).1
  have g1 := inv_look h0 g
  have h1 := h.le g1
  have hi1 : s1.st[i]? = some 1 := h1.one i (by dsimp only; rw [List.getElem?_set_self hil])
  have hd1 : s1.does.getD i 0 = 0 := h1.inv i (by rw [hi1]; decide)
  have hil1 := (List.getElem?_eq_some_iff.1 hi1).1
  refine ⟨fun j hj => ?_, fun j => ?_, fun j hj => ?_, fun j hj => ?_, ?_, ?_⟩
  ·dsimp only at hj ⊢
   by_cases hji : i = j
   ·subst hji
    rw [List.getElem?_set_self hil1] at hj
    exact absurd rfl hj
   ·rw [List.getElem?_set_ne hji] at hj
    rw [getD_set_ne hji]
    exact h1.inv j hj
  ·dsimp only
   by_cases hji : i = j
   ·subst hji
    rw [g i (by rw [h0]; decide)]
    exact .zero _
   ·rw [getD_set_ne hji]
    exact h1.le j
  ·have hji : i ≠ j := fun hh => by subst hh; rw [h0] at hj; cases hj
   dsimp only
   rw [List.getElem?_set_ne hji]
   exact h1.one j (by dsimp only; rw [List.getElem?_set_ne hji]; exact hj)
  ·have hji : i ≠ j := fun hh => by subst hh; rw [h0] at hj; cases hj
   dsimp only
   rw [List.getElem?_set_ne hji]
   exact h1.two j (by dsimp only; rw [List.getElem?_set_ne hji]; exact hj)
  ·dsimp only
   rw [List.length_set]
   exact h1.len.1
  ·dsimp only
   rw [List.length_set, h1.len.2]
   simp
 | .busy _, g => ⟨g, fun _ => .refl _, fun _ h => h, fun _ h => h, rfl, rfl⟩
 | .known _, g => .refl g
end
mutual
def vX (p : Pr) (d : List Nat) : Ex → Nat
 | .mk k _ nm _ _ args => (if k = 7 then d.getD ((funOf p nm).getD 0) 0 else efOwn p k nm) ||| vXs p d args
def vXs (p : Pr) (d : List Nat) : List Ex → Nat
 | [] => 0
 | x :: r => vX p d x ||| vXs p d r
end
def vOwn (p : Pr) (d : List Nat) (k : Int) (x y : Ex) : Nat := (vX p d x ||| vX p d y) ||| efSt k
mutual
theorem EvX.sub {p : Pr} {s s2 : EfS} {x : Ex} {e : Nat} : EvX p s x e s2 → s.Inv → s.does.length = s.st.length → ∀ d : List Nat, (∀ i : Nat, BSub (s2.does.getD i 0) (d.getD i 0)) → BSub e (vX p d x)
 | .call hk hi h hs, g, hl, d, hd => by
  have h1 := h.le g
  have h2 := hs.le h1.inv
  have a := h.sub g hl
  rw [vX, if_pos hk, hi]
  exact .or ((a.trans (h2.le _)).trans (hd _)) (hs.sub h1.inv (h1.even hl) d hd)
 | .other hk hs, g, hl, d, hd => by
  rw [vX, if_neg hk]
  exact .or (.refl _) (hs.sub g hl d hd)
theorem EvXs.sub {p : Pr} {s s2 : EfS} {l : List Ex} {e : Nat} : EvXs p s l e s2 → s.Inv → s.does.length = s.st.length → ∀ d : List Nat, (∀ i : Nat, BSub (s2.does.getD i 0) (d.getD i 0)) → BSub e (vXs p d l)
 | .nil, _, _, _, _ => .zero _
 | .cons h hr, g, hl, d, hd => by
  have h1 := h.le g
  have h2 := hr.le h1.inv
  rw [vXs]
  exact .or (h.sub g hl d fun i => (h2.le i).trans (hd i)) (hr.sub h1.inv (h1.even hl) d hd)
theorem EvO.sub {p : Pr} {s s2 : EfS} {i e : Nat} : EvO p s i e s2 → s.Inv → s.does.length = s.st.length → BSub e (s2.does.getD i 0)
 | .fresh (s1 := s1) h0 hf h, g, hl => by
  have h1 := h.le (inv_look h0 g)
  have hil := (List.getElem?_eq_some_iff.1 h0).1
  have hlt : i < s1.does.length := by rw [h1.len.1]; show i < s.does.length; omega
  dsimp only
  rw [List.getD_eq_getElem?_getD, List.getElem?_set_self hlt]
  exact .refl _
 | .busy _, _, _ => .refl _
 | .known _, _, _ => .refl _
end
theorem all_known {s s2 : EfS} {i e : Nat} {p : Pr} (h : ∀ j : Nat, j < s.st.length → s.st[j]? = some 2) (ho : EvO p s i e s2) : s2 = s ∧ e = s.does.getD i 0 := by
 cases ho with
 | fresh h0 _ _ => rw [h i (List.getElem?_eq_some_iff.1 h0).1] at h0; cases h0
 | busy h1 => rw [h i (List.getElem?_eq_some_iff.1 h1).1] at h1; cases h1
 | known h2 => exact ⟨rfl, rfl⟩
mutual
def opS (p : Pr) (d : List Nat) : St → Bool
 | .mk k _ _ x y _ body _ els => decide (vOwn p d k x y &&& 2 ≠ 0) || (opSs p d body || opSs p d els)
def opSs (p : Pr) (d : List Nat) : List St → Bool
 | [] => false
 | s :: r => opS p d s || opSs p d r
end
structure Wh where
 atomic : Bool
 thread : Bool
 touching : Bool
def badAt (k : Int) (e : Nat) (w : Wh) : Bool :=
 (decide (k = 7) && (w.thread || w.atomic)) || ((decide (e &&& 2 ≠ 0) && (w.atomic || w.touching)) || (decide (e &&& 1 ≠ 0) && (w.thread && !w.atomic)))
inductive Wrg where
 | found (at_ : Int)
 | on (at_ : Int)
mutual
def wrS (p : Pr) (d : List Nat) (w : Wh) : St → Int → Wrg
 | .mk k _ _ x y _ body _ els, a =>
  if badAt k (vOwn p d k x y) w then .found (a + 1)
  else
   match wrSs p d ⟨w.atomic || decide (k = 5), w.thread, w.touching⟩ body (a + 1) with
   | .found q => .found q
   | .on a1 => wrSs p d ⟨w.atomic || decide (k = 5), w.thread, w.touching⟩ els a1
def wrSs (p : Pr) (d : List Nat) (w : Wh) : List St → Int → Wrg
 | [], a => .on a
 | s :: r, a =>
  match wrS p d w s a with
  | .found q => .found q
  | .on a1 => wrSs p d w r a1
end
end Go.Proofs.YtkklogikakcanaaGreatDoor
namespace Go.Proofs.YtkklogikakcanaaGreatDoor
open Go
mutual
def knE (p : Pr) : Ex → Bool
 | .mk k _ nm _ _ args => (decide (k ≠ 7) || (funOf p nm).isSome) && knEs p args
def knEs (p : Pr) : List Ex → Bool
 | [] => true
 | x :: r => knE p x && knEs p r
end
mutual
def knS (p : Pr) : St → Bool
 | .mk _ _ _ x y _ body _ els => (knE p x && knE p y) && (knSs p body && knSs p els)
def knSs (p : Pr) : List St → Bool
 | [] => true
 | s :: r => knS p s && knSs p r
end
theorem knEs_mem {p : Pr} : ∀ {l : List Ex} {y : Ex}, knEs p l = true → y ∈ l → knE p y = true
 | x :: r, y, h, hy => by
  rw [knEs, Bool.and_eq_true] at h
  rcases List.mem_cons.1 hy with rfl | hy
  ·exact h.1
  ·exact knEs_mem h.2 hy
theorem knSs_mem {p : Pr} : ∀ {l : List St} {y : St}, knSs p l = true → y ∈ l → knS p y = true
 | x :: r, y, h, hy => by
  rw [knSs, Bool.and_eq_true] at h
  rcases List.mem_cons.1 hy with rfl | hy
  ·exact h.1
  ·exact knSs_mem h.2 hy
mutual
theorem knE_of {p : Pr} {l : Lc} : ∀ (x : Ex) (s : Srt), exS p l x = .ok s → knE p x = true
 | .mk k n nm t d args, s, h => by
  rw [exS] at h
  cases hs : exSs p l args with
  | error e => rw [hs] at h; cases h
  | ok ss =>
   rw [hs] at h
   dsimp only at h
   rw [knE, knEs_of args ss hs]
   by_cases hk : k = 7
   ·subst hk
    unfold exEnd at h
    rw [if_neg (by decide), if_neg (by decide), if_neg (by decide), if_neg (by decide), if_neg (by decide), if_neg (by decide), if_pos rfl] at h
    cases hf : funOf p nm with
    | none => rw [hf] at h; cases h
    | some i => simp
   ·simp [hk]
theorem knEs_of {p : Pr} {l : Lc} : ∀ (xs : List Ex) (ss : List Srt), exSs p l xs = .ok ss → knEs p xs = true
 | [], _, _ => by rw [knEs]
 | x :: r, ss, h => by
  rw [exSs] at h
  cases hx : exS p l x with
  | error e => rw [hx] at h; cases h
  | ok s =>
   rw [hx] at h
   dsimp only at h
   split at h
   ·cases hr : exSs p l r with
    | error e => rw [hr] at h; cases h
    | ok q =>
     rw [knEs, knE_of x s hx, knEs_of r q hr]
     rfl
   ·cases h
end
theorem knE_val {p : Pr} {l : Lc} {x : Ex} {s : Srt} (h : valS p l x = .ok s) : knE p x = true := by
 unfold valS at h
 cases hx : exS p l x with
 | error e => rw [hx] at h; cases h
 | ok u => exact knE_of x u hx
theorem knE_no {p : Pr} {x : Ex} (h : noEx x = true) : knE p x = true := by
 obtain ⟨k, n, nm, t, d, args⟩ := x
 simp only [noEx, Bool.and_eq_true, List.isEmpty_iff] at h
 obtain rfl : k = 0 := of_decide_eq_true h.1
 obtain rfl : args = [] := h.2.2.2.2
 rw [knE, knEs]
 rfl
theorem knS_own {p : Pr} {l : Lc} {res : Ty} {s : St} (hf : stForm s = true) (h : stOwn p l res s = 0) : knE p s.x = true ∧ knE p s.y = true := by
 have hval : ∀ {x : Ex} {f : Srt → Int}, (∀ e, exS p l x = .error e → e ≠ 0) → (match valS p l x with | .error e => e | .ok v => f v) = 0 → ∃ v, valS p l x = .ok v ∧ f v = 0 := fun {x f} _ hh => by
  cases hv : valS p l x with
  | error e =>
   rw [hv] at hh
   exfalso
   unfold valS at hv
   cases hx : exS p l x with
   | error e2 => rw [hx] at hv; injection hv with hv; exact exS_ne p l x e2 hx (hv.trans hh)
   | ok u =>
    rw [hx] at hv
    dsimp only at hv
    split at hv
    ·cases hv
    ·injection hv with hv; have hh2 : e = 0 := hh; omega
  | ok v => rw [hv] at hh; exact ⟨v, rfl, hh⟩
 have hne := fun x => exS_ne p l x
 unfold stForm at hf
 unfold stOwn at h
 by_cases h2 : s.k = 2
 ·rw [if_neg (by omega), if_pos h2] at h
  obtain ⟨v, hv, h3⟩ := hval (hne _) h
  obtain ⟨u, hu, -⟩ := hval (f := fun u => if u.fits v.t then 0 else 10) (hne _) h3
  exact ⟨knE_val hv, knE_val hu⟩
 ·rw [if_neg h2] at hf
  split at hf
  ·cases hf
  ·split at hf
   ·cases hf
   ·simp only [Bool.and_eq_true, Bool.or_eq_true, decide_eq_true_eq] at hf
    obtain ⟨-, hy, hx5, -⟩ := hf
    refine ⟨?_, knE_no hy⟩
    by_cases hx0 : noEx s.x = true
    ·exact knE_no hx0
    ·rw [if_neg hx0, if_neg h2] at h
     split at h
     ·split at h
      ·cases h
      ·split at h
       ·cases h
       ·obtain ⟨v, hv, -⟩ := hval (f := fun v => if v.fits s.t then 0 else 10) (hne _) h
        exact knE_val hv
     ·split at h
      ·obtain ⟨v, hv, -⟩ := hval (f := fun v => if v = numS then 0 else 10) (hne _) h
       exact knE_val hv
      ·split at h
       ·obtain ⟨v, hv, -⟩ := hval (f := fun v => if v.fits res then 0 else 10) (hne _) h
        exact knE_val hv
       ·split at h
        ·cases hv : exS p l s.x with
         | error e => rw [hv] at h; exact absurd h (hne _ _ hv)
         | ok u => exact knE_of _ _ hv
        ·exfalso
         rcases hx5 with h5 | h5
         ·omega
         ·exact hx0 h5
mutual
theorem knS_of {p : Pr} : ∀ (s : St) (deep : Nat) (a a' : At) (l : Lc) (res : Ty) (b b' : Int), chkSt s deep a = .on a' → scSt p l res s b = .on b' → knS p s = true
 | .mk k nm t x y bd body ed els, deep, a, a', l, res, b, b', h, hs => by
  rw [chkSt] at h
  cases hi : itemC deep a.it with
  | error e => rw [hi] at h; cases h
  | ok it =>
   rw [hi] at h
   dsimp only at h
   split at h
   ·cases h
   ·next hform =>
    split at h
    ·cases h
    ·cases hx : (if k = 5 ∨ ((k = 1 ∨ k = 7) ∧ noEx x = true) then Chk.on ⟨a.p, it⟩ else chkXt x ⟨a.p, it⟩) with
     | bad p e => rw [hx] at h; cases h
     | on a1 =>
      rw [hx] at h
      dsimp only at h
      cases hy : (if k = 2 then chkXt y a1 else Chk.on a1) with
      | bad p e => rw [hy] at h; cases h
      | on a2 =>
       rw [hy] at h
       dsimp only at h
       cases hb : chkSts body (deep + 1) a2 with
       | bad p e => rw [hb] at h; cases h
       | on a3 =>
        rw [hb] at h
        rw [scSt] at hs
        split at hs
        ·cases hs
        ·next hown =>
         cases hsb : scSts p (lcNext l (.mk k nm t x y bd body ed els)) res body b with
         | bad q e => rw [hsb] at hs; cases hs
         | on b1 =>
          rw [hsb] at hs
          have ho := knS_own (p := p) (l := l) (res := res) (s := .mk k nm t x y bd body ed els) (by simpa using hform) (by simpa using hown)
          rw [knS, knSs_of body _ _ _ _ _ _ _ hb hsb, knSs_of els _ _ _ _ _ _ _ h hs]
          simp only [St.x, St.y] at ho
          rw [ho.1, ho.2]
          rfl
theorem knSs_of {p : Pr} : ∀ (ss : List St) (deep : Nat) (a a' : At) (l : Lc) (res : Ty) (b b' : Int), chkSts ss deep a = .on a' → scSts p l res ss b = .on b' → knSs p ss = true
 | [], _, _, _, _, _, _, _, _, _ => by rw [knSs]
 | s :: r, deep, a, a', l, res, b, b', h, hs => by
  obtain ⟨a1, h1, h2⟩ := chkSts_on h
  rw [scSts] at hs
  cases hs1 : scSt p l res s (b + 1) with
  | bad q e => rw [hs1] at hs; cases hs
  | on b1 =>
   rw [hs1] at hs
   rw [knSs, knS_of s _ _ _ _ _ _ _ h1 hs1, knSs_of r _ _ _ _ _ _ _ h2 hs]
   rfl
end
theorem scFus_body {p : Pr} : ∀ (l : List Fu) met (a a' : Int), scFus p met l a = .on a' → ∀ f ∈ l, ∃ b b', scSts p f.ps.reverse f.t f.body b = .on b'
 | [], _, _, _, _, f, hf => by simp at hf
 | g :: l, met, a, a', h, f, hf => by
  rw [scFus] at h
  split at h
  ·cases h
  ·split at h
   ·cases h
   ·split at h
    ·cases h
    ·cases hs : scSts p g.ps.reverse g.t g.body (a + 1) with
     | bad q e => rw [hs] at h; cases h
     | on a1 =>
      rw [hs] at h
      rcases List.mem_cons.1 hf with rfl | hf
      ·exact ⟨_, _, hs⟩
      ·exact scFus_body l _ _ _ h f hf
theorem scThs_body {p : Pr} : ∀ (l : List Th) (a a' : Int), scThs p l a = .on a' → ∀ t ∈ l, ∃ b b', scSts p [] ty0 t.l b = .on b'
 | [], _, _, _, t, ht => by simp at ht
 | g :: l, a, a', h, t, ht => by
  rw [scThs] at h
  cases hs : scSts p [] ty0 g.l (a + 1) with
  | bad q e => rw [hs] at h; cases h
  | on a1 =>
   rw [hs] at h
   rcases List.mem_cons.1 ht with rfl | ht
   ·exact ⟨_, _, hs⟩
   ·exact scThs_body l _ _ h t ht
structure KnP (p : Pr) : Prop where
 fs : ∀ f ∈ p.fs, knSs p f.body = true
 ts : ∀ t ∈ p.ts, knSs p t.l = true
theorem knP_of {p : Pr} (h : (typesCheck p).2 = 0) : KnP p := by
 obtain ⟨-, ⟨a, ha⟩, b, c, hb, hc⟩ := types_ok h
 have g := chkPr_on ha
 have hfu : ∃ b0 met b', scFus p met p.fs b0 = .on b' := by
  unfold scHeads at hb
  generalize (scRes p [] p.rs (-1)).bind (scShs p (p.rs.map Re.nm).reverse p.ss) = X at hb
  cases X with
  | bad q e => cases hb
  | on b0 => exact ⟨b0, _, _, hb⟩
 obtain ⟨b0, met, b', hfu⟩ := hfu
 refine ⟨fun f hf => ?_, fun t ht => ?_⟩
 ·obtain ⟨-, -, -, a1, a2, h1⟩ := g.funs.2 f hf
  obtain ⟨c1, c2, h2⟩ := scFus_body _ _ _ _ hfu f hf
  exact knSs_of _ _ _ _ _ _ _ _ h1 h2
 ·obtain ⟨a1, a2, h1⟩ := g.thrs.2 t ht
  obtain ⟨c1, c2, h2⟩ := scThs_body _ _ _ hc t ht
  exact knSs_of _ _ _ _ _ _ _ _ h1 h2
theorem funOf_lt {p : Pr} {nm : List UInt8} {i : Nat} (h : funOf p nm = some i) : i < p.fs.length := by
 unfold funOf at h
 generalize p.fs = l at h
 induction l generalizing i with
 | nil => cases h
 | cons f r ih =>
  rw [idxOf] at h
  split at h
  ·injection h with h; subst h; simp
  ·cases hr : idxOf Fu.nm nm r with
   | none => rw [hr] at h; cases h
   | some j =>
    rw [hr] at h
    simp only [Option.map_some, Option.some.injEq] at h
    subst h
    have := ih hr
    simp only [List.length_cons]; omega
def zer : List Nat → Nat
 | [] => 0
 | x :: r => (if x = 0 then 1 else 0) + zer r
theorem zer_le : ∀ (l l' : List Nat), l'.length = l.length → (∀ i : Nat, l'[i]? = some 0 → l[i]? = some 0) → zer l' ≤ zer l
 | [], [], _, _ => Nat.le_refl _
 | [], _ :: _, h, _ => by simp at h
 | _ :: _, [], h, _ => by simp at h
 | x :: r, y :: r', h, hi => by
  have ih := zer_le r r' (by simpa using h) (fun i hh => by have := hi (i + 1); simp only [sl9] at this; exact this hh)
  have h0 := hi 0
  simp only [sl8, Option.some.injEq] at h0
  rw [zer, zer]
  by_cases hy : y = 0
  ·rw [if_pos hy, if_pos (h0 hy)]; omega
  ·rw [if_neg hy]; omega
theorem zer_set : ∀ (l : List Nat) (i e : Nat), l[i]? = some 0 → e ≠ 0 → zer (l.set i e) + 1 = zer l
 | [], i, _, h, _ => by simp at h
 | x :: r, 0, e, h, he => by
  simp only [sl8, Option.some.injEq] at h
  subst h
  rw [sl5, zer, zer, if_neg he, if_pos rfl]; omega
 | x :: r, i + 1, e, h, he => by
  simp only [sl9] at h
  have := zer_set r i e h he
  rw [sl6, zer, zer]; omega
abbrev EfS.Few (s : EfS) : Prop := ∀ e ∈ s.st, e ≤ 2
theorem few_set {l : List Nat} (h : ∀ e ∈ l, e ≤ 2) {i e : Nat} (he : e ≤ 2) : ∀ u ∈ l.set i e, u ≤ 2 := fun u hu => by
 rcases List.mem_or_eq_of_mem_set hu with hu | rfl
 ·exact h u hu
 ·exact he
theorem EfLe.zer {s s' : EfS} (h : EfLe s s') (hf : s.Few) : zer s'.st ≤ zer s.st := zer_le _ _ h.len.2 fun i hi => by
 have hl := (List.getElem?_eq_some_iff.1 hi).1
 rw [h.len.2] at hl
 obtain ⟨e, he⟩ : ∃ e, s.st[i]? = some e := ⟨_, List.getElem?_eq_getElem hl⟩
 have h2 := hf e (List.mem_of_getElem? he)
 match e, h2 with
 | 0, _ => exact he
 | 1, _ => rw [h.one i he] at hi; cases hi
 | 2, _ => rw [h.two i he] at hi; cases hi
mutual
theorem EvX.few {p : Pr} {s s2 : EfS} {x : Ex} {e : Nat} : EvX p s x e s2 → s.Few → s2.Few
 | .call _ _ h hs, g => hs.few (h.few g)
 | .other _ hs, g => hs.few g
theorem EvXs.few {p : Pr} {s s2 : EfS} {l : List Ex} {e : Nat} : EvXs p s l e s2 → s.Few → s2.Few
 | .nil, g => g
 | .cons h hr, g => hr.few (h.few g)
theorem EvSs.few {p : Pr} {s s2 : EfS} {l : List St} {e : Nat} : EvSs p s l e s2 → s.Few → s2.Few
 | .nil, g => g
 | .cons hb he hx hy hr, g => hr.few (hy.few (hx.few (he.few (hb.few g))))
theorem EvO.few {p : Pr} {s s2 : EfS} {i e : Nat} : EvO p s i e s2 → s.Few → s2.Few
 | .fresh _ _ h, g => few_set (h.few (few_set g (by decide))) (by decide)
 | .busy _, g => g
 | .known _, g => g
end
mutual
theorem EvX.det {p : Pr} {s s2 t2 : EfS} {x : Ex} {e u : Nat} : EvX p s x e s2 → EvX p s x u t2 → e = u ∧ s2 = t2
 | .call hk hi h hs, h2 => by
  cases h2 with
  | call hk2 hi2 h2 hs2 =>
   rw [hi] at hi2
   injection hi2 with hi2
   subst hi2
   obtain ⟨rfl, rfl⟩ := h.det h2
   obtain ⟨rfl, rfl⟩ := hs.det hs2
   exact ⟨rfl, rfl⟩
  | other hk2 _ => exact absurd hk hk2
 | .other hk hs, h2 => by
  cases h2 with
  | call hk2 hi2 h2 hs2 => exact absurd hk2 hk
  | other hk2 hs2 =>
   obtain ⟨rfl, rfl⟩ := hs.det hs2
   exact ⟨rfl, rfl⟩
termination_by structural h => h
theorem EvXs.det {p : Pr} {s s2 t2 : EfS} {l : List Ex} {e u : Nat} : EvXs p s l e s2 → EvXs p s l u t2 → e = u ∧ s2 = t2
 | .nil, h2 => by cases h2; exact ⟨rfl, rfl⟩
 | .cons h hr, h2 => by
  cases h2 with
  | cons h2 hr2 =>
   obtain ⟨rfl, rfl⟩ := h.det h2
   obtain ⟨rfl, rfl⟩ := hr.det hr2
   exact ⟨rfl, rfl⟩
termination_by structural h => h
theorem EvSs.det {p : Pr} {s s2 t2 : EfS} {l : List St} {e u : Nat} : EvSs p s l e s2 → EvSs p s l u t2 → e = u ∧ s2 = t2
 | .nil, h2 => by cases h2; exact ⟨rfl, rfl⟩
 | .cons hb he hx hy hr, h2 => by
  cases h2 with
  | cons hb2 he2 hx2 hy2 hr2 =>
   obtain ⟨rfl, rfl⟩ := hb.det hb2
   obtain ⟨rfl, rfl⟩ := he.det he2
   obtain ⟨rfl, rfl⟩ := hx.det hx2
   obtain ⟨rfl, rfl⟩ := hy.det hy2
   obtain ⟨rfl, rfl⟩ := hr.det hr2
   exact ⟨rfl, rfl⟩
termination_by structural h => h
theorem EvO.det {p : Pr} {s s2 t2 : EfS} {i e u : Nat} : EvO p s i e s2 → EvO p s i u t2 → e = u ∧ s2 = t2
 | .fresh h0 hf h, h2 => by
  cases h2 with
  | fresh h02 hf2 h2 =>
   rw [hf] at hf2
   injection hf2 with hf2
   subst hf2
   obtain ⟨rfl, rfl⟩ := h.det h2
   exact ⟨rfl, rfl⟩
  | busy h1 => rw [h0] at h1; cases h1
  | known h1 => rw [h0] at h1; cases h1
 | .busy h1, h2 => by
  cases h2 with
  | fresh h0 _ _ => rw [h1] at h0; cases h0
  | busy _ => exact ⟨rfl, rfl⟩
  | known h2 => rw [h1] at h2; cases h2
 | .known h2, h3 => by
  cases h3 with
  | fresh h0 _ _ => rw [h2] at h0; cases h0
  | busy h1 => rw [h2] at h1; cases h1
  | known _ => exact ⟨rfl, rfl⟩
termination_by structural h => h
end
mutual
theorem EvX.ones {p : Pr} {s s2 : EfS} {x : Ex} {e : Nat} : EvX p s x e s2 → ∀ j : Nat, s2.st[j]? = some 1 → s.st[j]? = some 1
 | .call _ _ h hs, j, hj => h.ones j (hs.ones j hj)
 | .other _ hs, j, hj => hs.ones j hj
theorem EvXs.ones {p : Pr} {s s2 : EfS} {l : List Ex} {e : Nat} : EvXs p s l e s2 → ∀ j : Nat, s2.st[j]? = some 1 → s.st[j]? = some 1
 | .nil, _, hj => hj
 | .cons h hr, j, hj => h.ones j (hr.ones j hj)
theorem EvSs.ones {p : Pr} {s s2 : EfS} {l : List St} {e : Nat} : EvSs p s l e s2 → ∀ j : Nat, s2.st[j]? = some 1 → s.st[j]? = some 1
 | .nil, _, hj => hj
 | .cons hb he hx hy hr, j, hj => hb.ones j (he.ones j (hx.ones j (hy.ones j (hr.ones j hj))))
theorem EvO.ones {p : Pr} {s s2 : EfS} {i e : Nat} : EvO p s i e s2 → ∀ j : Nat, s2.st[j]? = some 1 → s.st[j]? = some 1
 | .fresh (s1 := s1) h0 hf h, j, hj => by
  have hji : i ≠ j := fun hh => by
   subst hh
   dsimp only at hj
   by_cases hl : i < s1.st.length
   ·rw [List.getElem?_set_self hl] at hj; cases hj
   ·rw [List.getElem?_eq_none (by rw [List.length_set]; omega)] at hj; cases hj
  dsimp only at hj
  rw [List.getElem?_set_ne hji] at hj
  have := h.ones j hj
  dsimp only at this
  rwa [List.getElem?_set_ne hji] at this
 | .busy _, _, hj => hj
 | .known _, _, hj => hj
end
def EfS.Src (p : Pr) (s : EfS) : Prop := ∀ i e : Nat, s.st[i]? = some 2 → s.does[i]? = some e → ∃ a b f, p.fs[i]? = some f ∧ EvSs p a f.body e b ∧ a.Inv ∧ a.does.length = a.st.length ∧ ∀ j : Nat, BSub (b.does.getD j 0) (s.does.getD j 0)
theorem EfS.Src.grow {p : Pr} {s s' : EfS} (h : s.Src p) (hl : EfLe s s') {i e : Nat} (h2 : s.st[i]? = some 2) (he : s.does[i]? = some e) : ∃ a b f, p.fs[i]? = some f ∧ EvSs p a f.body e b ∧ a.Inv ∧ a.does.length = a.st.length ∧ ∀ j : Nat, BSub (b.does.getD j 0) (s'.does.getD j 0) := by
 obtain ⟨a, b, f, h1, h2, h3, h4, h5⟩ := h i e h2 he
 exact ⟨a, b, f, h1, h2, h3, h4, fun j => (h5 j).trans (hl.le j)⟩
mutual
theorem EvX.src {p : Pr} {s s2 : EfS} {x : Ex} {e : Nat} : EvX p s x e s2 → s.Inv → s.does.length = s.st.length → s.Src p → s2.Src p
 | .call _ _ h hs, g, hl, k => hs.src (h.le g).inv ((h.le g).even hl) (h.src g hl k)
 | .other _ hs, g, hl, k => hs.src g hl k
theorem EvXs.src {p : Pr} {s s2 : EfS} {l : List Ex} {e : Nat} : EvXs p s l e s2 → s.Inv → s.does.length = s.st.length → s.Src p → s2.Src p
 | .nil, _, _, k => k
 | .cons h hr, g, hl, k => hr.src (h.le g).inv ((h.le g).even hl) (h.src g hl k)
theorem EvSs.src {p : Pr} {s s2 : EfS} {l : List St} {e : Nat} : EvSs p s l e s2 → s.Inv → s.does.length = s.st.length → s.Src p → s2.Src p
 | .nil, _, _, k => k
 | .cons hb he hx hy hr, g, hl, k => by
  have h1 := hb.le g
  have h2 := he.le h1.inv
  have h3 := hx.le h2.inv
  have h4 := hy.le h3.inv
  have l1 := h1.even hl
  have l2 := h2.even l1
  have l3 := h3.even l2
  have l4 := h4.even l3
  exact hr.src h4.inv l4 (hy.src h3.inv l3 (hx.src h2.inv l2 (he.src h1.inv l1 (hb.src g hl k))))
theorem EvO.src {p : Pr} {s s2 : EfS} {i e : Nat} : EvO p s i e s2 → s.Inv → s.does.length = s.st.length → s.Src p → s2.Src p
 | .fresh (s1 := s1) (f := f) h0 hf h, g, hl, k => by
  have g1 := inv_look h0 g
  have hle := EvO.le (.fresh h0 hf h) g
  have hle1 := h.le g1
  have hil := (List.getElem?_eq_some_iff.1 h0).1
  have hk1 : EfS.Src p ⟨s.does, s.st.set i 1, s.ring⟩ := fun j u hj hu => by
   have hji : i ≠ j := fun hh => by
    subst hh
    dsimp only at hj
    rw [List.getElem?_set_self hil] at hj
    cases hj
   dsimp only at hj hu ⊢
   rw [List.getElem?_set_ne hji] at hj
   exact k j u hj hu
  have hk2 := h.src g1 (by dsimp only; rw [List.length_set]; exact hl) hk1
  have hd1 : s1.does.getD i 0 = 0 := hle1.inv i (by
   rw [hle1.one i (by dsimp only; rw [List.getElem?_set_self hil])]
   decide)
  have hsub : ∀ j : Nat, BSub (s1.does.getD j 0) ((s1.does.set i e).getD j 0) := fun j => by
   by_cases hji : i = j
   ·subst hji; rw [hd1]; exact .zero _
   ·rw [getD_set_ne hji]; exact .refl _
  intro j u hj hu
  by_cases hji : i = j
  ·subst hji
   have hlt : i < s1.does.length := by rw [hle1.len.1]; show i < s.does.length; omega
   dsimp only at hu
   rw [List.getElem?_set_self hlt] at hu
   injection hu with hu
   subst hu
   exact ⟨_, s1, f, hf, h, g1, by dsimp only; rw [List.length_set]; exact hl, hsub⟩
  ·dsimp only at hj hu
   rw [List.getElem?_set_ne hji] at hj hu
   obtain ⟨a, b, f2, h1, h2, h3, h4, h5⟩ := hk2 j u hj hu
   exact ⟨a, b, f2, h1, h2, h3, h4, fun q => (h5 q).trans (hsub q)⟩
 | .busy _, _, _, k => k
 | .known _, _, _, k => k
end
inductive EvL (p : Pr) : Nat → EfS → EfS → Prop
 | done {s : EfS} {i : Nat} (hi : p.fs.length ≤ i) : EvL p i s s
 | step {s s1 s2 : EfS} {i e : Nat} (hi : i < p.fs.length) (h : EvO p s i e s1) (hr : EvL p (i + 1) s1 s2) : EvL p i s s2
theorem EvL.det {p : Pr} {i : Nat} {s s2 t2 : EfS} (h : EvL p i s s2) : EvL p i s t2 → s2 = t2 := by
 induction h with
 | done hi => intro h2; cases h2 with
  | done _ => rfl
  | step hi2 _ _ => omega
 | step hi h hr ih => intro h2; cases h2 with
  | done hi2 => omega
  | step hi2 h2 hr2 =>
   obtain ⟨-, rfl⟩ := h.det h2
   exact ih hr2
def efNew (p : Pr) : EfS := ⟨List.replicate p.fs.length 0, List.replicate p.fs.length 0, false⟩
theorem efNew_inv (p : Pr) : (efNew p).Inv := fun i _ => by
 unfold efNew
 dsimp only
 rw [List.getD_eq_getElem?_getD]
 by_cases h : i < p.fs.length
 ·rw [List.getElem?_replicate, if_pos h]; rfl
 ·rw [List.getElem?_replicate, if_neg h]; rfl
theorem efNew_good (p : Pr) : (efNew p).Good := fun e he => by
 have := List.eq_of_mem_replicate he
 subst this
 decide
theorem efNew_few (p : Pr) : (efNew p).Few := fun e he => by
 have := List.eq_of_mem_replicate he
 subst this
 decide
theorem efNew_st {p : Pr} {i e : Nat} (h : (efNew p).st[i]? = some e) : e = 0 := List.eq_of_mem_replicate (List.mem_of_getElem? h)
theorem efNew_src (p : Pr) : (efNew p).Src p := fun i e h _ => by have := efNew_st h; cases this
structure EfEnd (p : Pr) (s : EfS) : Prop where
 dl : s.does.length = p.fs.length
 tl : s.st.length = p.fs.length
 good : s.Good
 src : s.Src p
 known : ∀ j : Nat, j < s.st.length → s.st[j]? = some 2
theorem evL_end {p : Pr} {i : Nat} {s s2 : EfS} (h : EvL p i s s2) : s.Inv → s.does.length = p.fs.length → s.st.length = p.fs.length → s.Good → s.Few → s.Src p → (∀ j : Nat, s.st[j]? ≠ some 1) → (∀ j : Nat, j < i → j < p.fs.length → s.st[j]? = some 2) → EfEnd p s2 := by
 induction h with
 | done hi => exact fun g hd ht hg hf hs h1 hk => ⟨hd, ht, hg, hs, fun j hj => hk j (by omega) (by omega)⟩
 | @step s s1 s2 i e hi h hr ih =>
  intro g hd ht hg hf hs h1 hk
  have hle := h.le g
  refine ih hle.inv (hle.len.1.trans hd) (hle.len.2.trans ht) (h.good hg).2 (h.few hf) (h.src g (hd.trans ht.symm) hs) (fun j hj => h1 j (h.ones j hj)) (fun j hj hjl => ?_)
  by_cases hji : j = i
  ·subst hji
   have hlt : j < s1.st.length := by rw [hle.len.2, ht]; exact hjl
   cases h with
   | fresh h0 hf2 h2 =>
    dsimp only at hlt ⊢
    rw [List.length_set] at hlt
    exact List.getElem?_set_self hlt
   | busy hb => exact absurd hb (h1 j)
   | known h2 => exact h2
  ·exact hle.two j (hk j (by omega) hjl)
theorem evL_new {p : Pr} {s : EfS} (h : EvL p 0 (efNew p) s) : EfEnd p s :=
 evL_end h (efNew_inv p) (by simp [efNew]) (by simp [efNew]) (efNew_good p) (efNew_few p) (efNew_src p) (fun j hj => by have := efNew_st hj; cases this) (fun j hj => by omega)
end Go.Proofs.YtkklogikakcanaaGreatDoor
namespace Go.Proofs.YtkklogikakcanaaGreatDoor
open Go
mutual
def exCl (p : Pr) : Ex → List Nat
 | .mk k _ nm _ _ args => (if k = 7 then [(funOf p nm).getD 0] else []) ++ exCls p args
def exCls (p : Pr) : List Ex → List Nat
 | [] => []
 | x :: r => exCl p x ++ exCls p r
end
mutual
def stCl (p : Pr) : St → List Nat
 | .mk _ _ _ x y _ body _ els => (exCl p x ++ exCl p y) ++ (stCls p body ++ stCls p els)
def stCls (p : Pr) : List St → List Nat
 | [] => []
 | s :: r => stCl p s ++ stCls p r
end
def callsOf (p : Pr) (n : Nat) : List Nat := match p.fs[n]? with
 | some f => stCls p f.body
 | none => []
def plus1 (f : Nat → Nat) (m : Nat) : Nat → Nat := fun k => if k = m then f m + 1 else f k
mutual
inductive BkN (p : Pr) (i : Nat) : (Nat → Nat) → Nat → Bool → (Nat → Nat) → Prop
 | mk {f f' : Nat → Nat} {n : Nat} {b : Bool} (h : BkL p i f (callsOf p n) b f') : BkN p i f n b f'
inductive BkL (p : Pr) (i : Nat) : (Nat → Nat) → List Nat → Bool → (Nat → Nat) → Prop
 | nil {f : Nat → Nat} : BkL p i f [] false f
 | hit {f : Nat → Nat} {m : Nat} {r : List Nat} (hm : m = i) : BkL p i f (m :: r) true f
 | found {f f' : Nat → Nat} {m : Nat} {r : List Nat} (hm : m ≠ i) (h0 : f m = 0) (h : BkN p i (plus1 f m) m true f') : BkL p i f (m :: r) true f'
 | on {f f' f2 : Nat → Nat} {m : Nat} {r : List Nat} {b : Bool} (hm : m ≠ i) (h0 : f m = 0) (h : BkN p i (plus1 f m) m false f') (hr : BkL p i f' r b f2) : BkL p i f (m :: r) b f2
 | met {f f2 : Nat → Nat} {m : Nat} {r : List Nat} {b : Bool} (hm : m ≠ i) (h0 : f m ≠ 0) (hr : BkL p i (plus1 f m) r b f2) : BkL p i f (m :: r) b f2
end
mutual
theorem BkN.det {p : Pr} {i n : Nat} {f g g2 : Nat → Nat} {b b2 : Bool} : BkN p i f n b g → BkN p i f n b2 g2 → b = b2 ∧ g = g2
 | .mk h, h2 => by
  cases h2 with
  | mk h2 => exact h.det h2
termination_by structural h => h
theorem BkL.det {p : Pr} {i : Nat} {l : List Nat} {f g g2 : Nat → Nat} {b b2 : Bool} : BkL p i f l b g → BkL p i f l b2 g2 → b = b2 ∧ g = g2
 | .nil, h2 => by cases h2; exact ⟨rfl, rfl⟩
 | .hit hm, h2 => by
  cases h2 with
  | hit _ => exact ⟨rfl, rfl⟩
  | found hn _ _ => exact absurd hm hn
  | on hn _ _ _ => exact absurd hm hn
  | met hn _ _ => exact absurd hm hn
 | .found hm h0 h, h2 => by
  cases h2 with
  | hit hn => exact absurd hn hm
  | found _ _ h2 => exact h.det h2
  | on _ _ h2 _ => have := (h.det h2).1; cases this
  | met _ hn _ => exact absurd h0 hn
 | .on hm h0 h hr, h2 => by
  cases h2 with
  | hit hn => exact absurd hn hm
  | found _ _ h2 => have := (h.det h2).1; cases this
  | on _ _ h2 hr2 =>
   obtain ⟨-, rfl⟩ := h.det h2
   exact hr.det hr2
  | met _ hn _ => exact absurd h0 hn
 | .met hm h0 hr, h2 => by
  cases h2 with
  | hit hn => exact absurd hn hm
  | found _ hn _ => exact absurd hn h0
  | on _ hn _ _ => exact absurd hn h0
  | met _ _ hr2 => exact hr.det hr2
termination_by structural h => h
end
def met0 : Nat → Nat := fun _ => 0
def Back (p : Pr) (i : Nat) (b : Bool) : Prop := ∃ f, BkN p i met0 i b f
theorem Back.det {p : Pr} {i : Nat} {b b2 : Bool} (h : Back p i b) (h2 : Back p i b2) : b = b2 := by
 obtain ⟨f, h⟩ := h
 obtain ⟨g, h2⟩ := h2
 exact (h.det h2).1
inductive RgL (p : Pr) : Nat → List Fu → Int → Option Int → Prop
 | nil {i : Nat} {a : Int} : RgL p i [] a none
 | hit {i : Nat} {f : Fu} {r : List Fu} {a : Int} (h : Back p i true) : RgL p i (f :: r) a (some a)
 | on {i : Nat} {f : Fu} {r : List Fu} {a : Int} {o : Option Int} (h : Back p i false) (hr : RgL p (i + 1) r (a + (1 + (plSts f.body : Nat))) o) : RgL p i (f :: r) a o
theorem RgL.det {p : Pr} {i : Nat} {l : List Fu} {a : Int} {o : Option Int} (h : RgL p i l a o) : ∀ o2, RgL p i l a o2 → o = o2 := by
 induction h with
 | nil => intro o2 h2; cases h2; rfl
 | hit h => intro o2 h2; cases h2 with
  | hit _ => rfl
  | on h2 _ => have := h.det h2; cases this
 | on h hr ih => intro o2 h2; cases h2 with
  | hit h2 => have := h.det h2; cases this
  | on _ hr2 => exact ih _ hr2
def wrFu (p : Pr) (d : List Nat) : List Fu → Nat → Int → Wrg
 | [], _, a => .on a
 | f :: r, i, a =>
  if f.t.k ≠ 0 ∧ d.getD i 0 &&& 4 ≠ 0 then .found (a + 1)
  else
   match wrSs p d ⟨false, false, decide (d.getD i 0 &&& 1 ≠ 0)⟩ f.body (a + 1) with
   | .found q => .found q
   | .on a1 => wrFu p d r (i + 1) a1
def wrTh (p : Pr) (d : List Nat) : List Th → Int → Wrg
 | [], a => .on a
 | t :: r, a =>
  match wrSs p d ⟨false, true, false⟩ t.l (a + 1) with
  | .found q => .found q
  | .on a1 => wrTh p d r a1
def efRest (p : Pr) (d : List Nat) : Int × Int :=
 match wrFu p d p.fs 0 ((p.rs.length + p.ss.length : Nat) - 1 : Int) with
 | .found q => (q, 11)
 | .on a =>
  match wrTh p d p.ts a with
  | .found q => (q, 11)
  | .on _ => (0, 0)
inductive EfC (p : Pr) : Int × Int → Prop
 | unfit (ht : (typesCheck p).2 ≠ 0) : EfC p (0, 1)
 | ring {s : EfS} {q : Int} (ht : (typesCheck p).2 = 0) (hl : EvL p 0 (efNew p) s) (hr : s.ring = true) (h : RgL p 0 p.fs ((p.rs.length + p.ss.length : Nat) : Int) (some q)) : EfC p (q, 12)
 | rest {s : EfS} (ht : (typesCheck p).2 = 0) (hl : EvL p 0 (efNew p) s) (h : s.ring = false ∨ (s.ring = true ∧ RgL p 0 p.fs ((p.rs.length + p.ss.length : Nat) : Int) none)) : EfC p (efRest p s.does)
theorem EfC.det {p : Pr} {a b : Int × Int} (h : EfC p a) (h2 : EfC p b) : a = b := by
 cases h with
 | unfit ht => cases h2 with
  | unfit _ => rfl
  | ring ht2 => exact absurd ht2 ht
  | rest ht2 => exact absurd ht2 ht
 | ring ht hl hr h => cases h2 with
  | unfit ht2 => exact absurd ht ht2
  | ring _ hl2 hr2 h2 => have := h.det _ h2; injection this with this; rw [this]
  | rest _ hl2 h2 =>
   obtain rfl := hl.det hl2
   rcases h2 with h2 | ⟨-, h2⟩
   ·rw [hr] at h2; cases h2
   ·have := h.det _ h2; cases this
 | rest ht hl h => cases h2 with
  | unfit ht2 => exact absurd ht ht2
  | ring _ hl2 hr2 h2 =>
   obtain rfl := hl.det hl2
   rcases h with h | ⟨-, h⟩
   ·rw [hr2] at h; cases h
   ·have := h.det _ h2; cases this
  | rest _ hl2 h2 =>
   obtain rfl := hl.det hl2
   rfl
theorem efRest_on {p : Pr} {d : List Nat} (h : (efRest p d).2 = 0) : ∃ a, wrFu p d p.fs 0 ((p.rs.length + p.ss.length : Nat) - 1 : Int) = .on a := by
 unfold efRest at h
 cases hw : wrFu p d p.fs 0 ((p.rs.length + p.ss.length : Nat) - 1 : Int) with
 | found q => rw [hw] at h; cases h
 | on a => exact ⟨a, rfl⟩
structure EfLaw (f : Fu) (e : Nat) : Prop where
 le : e ≤ 7
 both : ¬ (e &&& 1 ≠ 0 ∧ e &&& 2 ≠ 0)
 tells : e &&& 2 ≠ 0 → e &&& 4 ≠ 0
 res : f.t.k ≠ 0 → e &&& 2 = 0 ∧ e &&& 4 = 0
end Go.Proofs.YtkklogikakcanaaGreatDoor
