/-
  The stable sort of the library, plain: what its parts do to a row. No program in sight.
-/
import Derived.Sort.LotA
set_option linter.unusedVariables false
set_option linter.unusedSimpArgs false
namespace Go.Proofs.YtjaegddnikkibaaGreatDoor
open Go.Sort
variable {α : Type} [Inhabited α] {num : α → Int}

/-- the order of a stable sort: by lt, then by the numbers themselves -/
def stB {α : Type} (num : α → Int) (lt : α → α → Bool) (x y : α) : Bool := lt x y || (!lt y x && decide (num x < num y))
theorem stB_of_lt {β : Type} {nm : β → Int} {lt : β → β → Bool} {x y : β} (h : ¬ nm x < nm y) : stB nm lt x y = lt x y := by
  unfold stB; simp [h]
theorem stB_swo {β : Type} {nm : β → Int} {lt : β → β → Bool} (S : SWO lt) : SWO (stB nm lt) where
  irrefl x := by unfold stB; simp [S.irrefl]
  trans x y z h1 h2 := by
    unfold stB at *
    simp only [Bool.or_eq_true, Bool.and_eq_true, Bool.not_eq_true', decide_eq_true_eq] at *
    rcases h1 with h1 | ⟨h1, h1'⟩
    · rcases h2 with h2 | ⟨h2, h2'⟩
      · exact Or.inl (S.trans _ _ _ h1 h2)
      · left
        cases h : lt x z
        · have := S.ntrans _ _ _ h h2; rw [h1] at this; cases this
        · rfl
    · rcases h2 with h2 | ⟨h2, h2'⟩
      · left
        cases h : lt x z
        · have := S.ntrans _ _ _ h1 h; rw [h2] at this; cases this
        · rfl
      · right
        refine ⟨S.ntrans _ _ _ h2 h1, by omega⟩
  ntrans x y z h1 h2 := by
    unfold stB at *
    simp only [Bool.or_eq_false_iff, Bool.and_eq_false_iff, Bool.not_eq_false', decide_eq_false_iff_not] at *
    obtain ⟨a1, a2⟩ := h1
    obtain ⟨b1, b2⟩ := h2
    refine ⟨S.ntrans _ _ _ a1 b1, ?_⟩
    rcases a2 with a2 | a2
    · left
      cases h : lt z x
      · have := S.ntrans _ _ _ b1 h; rw [a2] at this; cases this
      · rfl
    · rcases b2 with b2 | b2
      · left
        cases h : lt z x
        · have := S.ntrans _ _ _ h a1; rw [b2] at this; cases this
        · rfl
      · right; omega

/-! ### an exchange of two rows of one length -/
structure SwapIn (a b q : Nat) (d d' : Array α) : Prop where
  size : d'.size = d.size
  one : ∀ x, a ≤ x → x < a + q → d'[x]! = d[x - a + b]!
  two : ∀ x, b ≤ x → x < b + q → d'[x]! = d[x - b + a]!
  rest : ∀ x, (x < a ∨ a + q ≤ x) → (x < b ∨ b + q ≤ x) → d'[x]! = d[x]!
  perm : ∀ s e, s ≤ a → b + q ≤ e → e ≤ d.size → PermIn s e d d'
theorem SwapIn.start (a b : Nat) (d : Array α) : SwapIn a b 0 d d :=
  ⟨rfl, fun _ h1 h2 => absurd h2 (by omega), fun _ h1 h2 => absurd h2 (by omega), fun _ _ _ => rfl, fun s e _ _ _ => permIn_refl d s e⟩
theorem SwapIn.step {a b q : Nat} {d d' : Array α} (h : SwapIn a b q d d') (hab : a + q < b) (hb : b + q < d.size) : SwapIn a b (q + 1) d (swp d' (a + q) (b + q)) := by
  have hs := h.size
  have g := swp_get d' (i := a + q) (j := b + q) (by omega) (by omega)
  refine ⟨by rw [size_swp]; exact h.size, fun x h1 h2 => ?_, fun x h1 h2 => ?_, fun x h1 h2 => ?_, fun s e h1 h2 h3 => ?_⟩
  · rw [g x, if_neg (by omega)]
    by_cases hx : x = a + q
    · rw [if_pos hx, hx, h.rest (b + q) (by omega) (by omega)]
      congr 1; omega
    · rw [if_neg hx, h.one x h1 (by omega)]
  · rw [g x]
    by_cases hx : x = b + q
    · rw [if_pos hx, hx, h.rest (a + q) (by omega) (by omega)]
      congr 1; omega
    · rw [if_neg hx, if_neg (by omega), h.two x h1 (by omega)]
  · rw [g x, if_neg (by omega), if_neg (by omega), h.rest x (by omega) (by omega)]
  · exact permIn_trans _ _ _ _ _ (h.perm s e h1 (by omega) h3) (swp_permIn _ s e _ _ (by omega) (by omega) (by omega) (by omega) (by rw [hs]; exact h3))

/-! ### the rotation -/
/-- d' is d with [s, m) and [m, e) exchanged -/
structure RotIn (s m e : Nat) (d d' : Array α) : Prop where
  size : d'.size = d.size
  out : ∀ x, x < s ∨ e ≤ x → d'[x]! = d[x]!
  one : ∀ x, s ≤ x → x < s + (e - m) → d'[x]! = d[x - s + m]!
  two : ∀ x, s + (e - m) ≤ x → x < e → d'[x]! = d[x - (e - m)]!
  perm : PermIn s e d d'
/-- under way: [m - i, m) and [m, m + j) of dk are still to be exchanged -/
structure RotMid (s m e i j : Nat) (d dk : Array α) : Prop where
  size : dk.size = d.size
  ipos : 0 < i
  jpos : 0 < j
  ile : s + i ≤ m
  jle : m + j ≤ e
  out : ∀ x, x < s ∨ e ≤ x → dk[x]! = d[x]!
  done : ∀ x, s ≤ x → x < e → (x < m - i ∨ m + j ≤ x) → dk[x]! = d[if x < s + (e - m) then x - s + m else x - (e - m)]!
  one : ∀ x, m - i ≤ x → x < m - i + j → dk[x + i]! = d[if x < s + (e - m) then x - s + m else x - (e - m)]!
  two : ∀ x, m - i + j ≤ x → x < m + j → dk[x - j]! = d[if x < s + (e - m) then x - s + m else x - (e - m)]!
  perm : PermIn s e d dk
theorem RotMid.start {s m e : Nat} {d : Array α} (h1 : s < m) (h2 : m < e) : RotMid s m e (m - s) (e - m) d d :=
  ⟨rfl, by omega, by omega, by omega, by omega, fun _ _ => rfl, fun x h3 h4 h5 => by omega,
    fun x h3 h4 => by rw [if_pos (by omega)]; congr 1; omega, fun x h3 h4 => by rw [if_neg (by omega)], permIn_refl _ _ _⟩
theorem RotMid.gt {s m e i j : Nat} {d dk dn : Array α} (h : RotMid s m e i j d dk) (hij : j < i) (he : e ≤ d.size) (hs : SwapIn (m - i) m j dk dn) : RotMid s m e (i - j) j d dn := by
  have z1 := h.ile
  have z2 := h.jle
  have z3 := h.jpos
  have z4 := h.size
  refine ⟨hs.size.trans h.size, by omega, z3, by omega, z2, fun x hx => ?_, fun x h1 h2 h3 => ?_, fun x h1 h2 => ?_, fun x h1 h2 => ?_, permIn_trans _ _ _ _ _ h.perm (hs.perm s e (by omega) (by omega) (by omega))⟩
  · rw [hs.rest x (by omega) (by omega), h.out x hx]
  · by_cases hx : m - i ≤ x ∧ x < m - i + j
    · rw [hs.one x hx.1 hx.2, ← h.one x hx.1 hx.2]
      congr 1; omega
    · rw [hs.rest x (by omega) (by omega), h.done x h1 h2 (by omega)]
  · rw [hs.two (x + (i - j)) (by omega) (by omega), ← h.two x (by omega) (by omega)]
    congr 1; omega
  · rw [hs.rest (x - j) (by omega) (by omega), ← h.two x (by omega) (by omega)]
theorem RotMid.lt {s m e i j : Nat} {d dk dn : Array α} (h : RotMid s m e i j d dk) (hij : i < j) (he : e ≤ d.size) (hs : SwapIn (m - i) (m + j - i) i dk dn) : RotMid s m e i (j - i) d dn := by
  have z1 := h.ile
  have z2 := h.jle
  have z3 := h.ipos
  have z4 := h.size
  refine ⟨hs.size.trans h.size, z3, by omega, z1, by omega, fun x hx => ?_, fun x h1 h2 h3 => ?_, fun x h1 h2 => ?_, fun x h1 h2 => ?_, permIn_trans _ _ _ _ _ h.perm (hs.perm s e (by omega) (by omega) (by omega))⟩
  · rw [hs.rest x (by omega) (by omega), h.out x hx]
  · by_cases hx : m + j - i ≤ x ∧ x < m + j
    · rw [hs.two x hx.1 (by omega), ← h.two x (by omega) (by omega)]
      congr 1; omega
    · rw [hs.rest x (by omega) (by omega), h.done x h1 h2 (by omega)]
  · rw [hs.rest (x + i) (by omega) (by omega), ← h.one x (by omega) (by omega)]
  · rw [hs.one (x - (j - i)) (by omega) (by omega), ← h.one x (by omega) (by omega)]
    congr 1; omega
theorem RotMid.eq {s m e i : Nat} {d dk dn : Array α} (h : RotMid s m e i i d dk) (he : e ≤ d.size) (hs : SwapIn (m - i) m i dk dn) : RotIn s m e d dn := by
  have z1 := h.ile
  have z2 := h.jle
  have z3 := h.ipos
  have z4 := h.size
  have key : ∀ x, s ≤ x → x < e → dn[x]! = d[if x < s + (e - m) then x - s + m else x - (e - m)]! := fun x h1 h2 => by
    by_cases ha : m - i ≤ x ∧ x < m
    · rw [hs.one x ha.1 (by omega), ← h.one x ha.1 (by omega)]
      congr 1; omega
    · by_cases hb : m ≤ x ∧ x < m + i
      · rw [hs.two x hb.1 hb.2, ← h.two x (by omega) (by omega)]
        congr 1; omega
      · rw [hs.rest x (by omega) (by omega), h.done x h1 h2 (by omega)]
  exact ⟨hs.size.trans h.size, fun x hx => by rw [hs.rest x (by omega) (by omega), h.out x hx], fun x h1 h2 => by rw [key x h1 (by omega), if_pos h2], fun x h1 h2 => by rw [key x (by omega) h2, if_neg (by omega)],
    permIn_trans _ _ _ _ _ h.perm (hs.perm s e (by omega) (by omega) (by omega))⟩
theorem RotIn.none {s m e : Nat} {d : Array α} (h1 : s ≤ m) (h2 : m ≤ e) (h : s = m ∨ m = e) : RotIn s m e d d :=
  ⟨rfl, fun _ _ => rfl, fun x h3 h4 => by congr 1; omega, fun x h3 h4 => by congr 1; omega, permIn_refl _ _ _⟩

/-! ### the merge -/
/-- two sorted rows, the numbers of the first one less than those of the second -/
structure Two (num : α → Int) (lt : α → α → Bool) (a m b : Nat) (d : Array α) : Prop where
  left : SortedIn (stB num lt) a m d
  right : SortedIn (stB num lt) m b d
  cross : ∀ i j, a ≤ i → i < m → m ≤ j → j < b → num d[i]! < num d[j]!
/-- one sorted row -/
structure Merged (num : α → Int) (lt : α → α → Bool) (a b : Nat) (d d' : Array α) : Prop where
  perm : PermIn a b d d'
  sorted : SortedIn (stB num lt) a b d'
theorem Two.cmp {lt : α → α → Bool} {a m b : Nat} {d : Array α} (h : Two num lt a m b d) {i j : Nat} (h1 : a ≤ i) (h2 : i < m) (h3 : m ≤ j) (h4 : j < b) : lt d[j]! d[i]! = stB num lt d[j]! d[i]! := by
  have := h.cross i j h1 h2 h3 h4
  rw [stB_of_lt (by omega)]
theorem two_of_rot_left {lt : α → α → Bool} {a m b s e : Nat} {d d1 : Array α} (h : Two num lt a m b d) (hr : RotIn s m e d d1) (h1 : a ≤ s) (h2 : s ≤ m) (h3 : m ≤ e) (h4 : e ≤ b) : Two num lt a s (s + (e - m)) d1 where
  left i j hi hij hj := by rw [hr.out i (by omega), hr.out j (by omega)]; exact h.left i j hi hij (by omega)
  right i j hi hij hj := by rw [hr.one i hi (by omega), hr.one j (by omega) hj]; exact h.right _ _ (by omega) (by omega) (by omega)
  cross i j hi hi2 hj hj2 := by rw [hr.out i (by omega), hr.one j hj hj2]; exact h.cross _ _ hi (by omega) (by omega) (by omega)
theorem two_of_rot_right {lt : α → α → Bool} {a m b s e : Nat} {d d1 d2 : Array α} (h : Two num lt a m b d) (hr : RotIn s m e d d1) (h1 : a ≤ s) (h2 : s ≤ m) (h3 : m ≤ e) (h4 : e ≤ b) (hk : ∀ x, s + (e - m) ≤ x → d2[x]! = d1[x]!) : Two num lt (s + (e - m)) e b d2 where
  left i j hi hij hj := by rw [hk i hi, hk j (by omega), hr.two i hi (by omega), hr.two j (by omega) hj]; exact h.left _ _ (by omega) (by omega) (by omega)
  right i j hi hij hj := by rw [hk i (by omega), hk j (by omega), hr.out i (by omega), hr.out j (by omega)]; exact h.right _ _ (by omega) (by omega) (by omega)
  cross i j hi hi2 hj hj2 := by rw [hk i hi, hk j (by omega), hr.two i hi hi2, hr.out j (by omega)]; exact h.cross _ _ (by omega) (by omega) (by omega) (by omega)

theorem not_swo {β : Type} {lt : β → β → Bool} (S : SWO lt) {x y : β} (h : lt x y = true) : lt y x = false := by
  cases h' : lt y x
  · rfl
  · have := S.trans _ _ _ h h'; rw [S.irrefl] at this; cases this

/-- behind both halves' merge the whole is merged -/
theorem merged_of {lt : α → α → Bool} (S : SWO lt) {a m b s e : Nat} {d d1 d2 d3 : Array α} (h : Two num lt a m b d) (hr : RotIn s m e d d1) (h1 : a ≤ s) (h2 : s ≤ m) (h3 : m ≤ e) (h4 : e ≤ b) (hb : b ≤ d.size)
    (f1 : a < s → e < b → stB num lt d[e]! d[s - 1]! = false) (f2 : s < m → m < e → stB num lt d[e - 1]! d[s]! = true)
    (hl : Merged num lt a (s + (e - m)) d1 d2) (hh : Merged num lt (s + (e - m)) b d2 d3) : Merged num lt a b d d3 := by
  have S' := stB_swo (nm := num) S
  have z1 := hr.size
  have z2 := hl.perm.1
  have z3 := hh.perm.1
  -- what lies left is nowhere behind what lies right
  have key : ∀ i j, a ≤ i → i < s + (e - m) → s + (e - m) ≤ j → j < b → stB num lt d1[j]! d1[i]! = false := fun i j hi hi2 hj hj2 => by
    have lefts : ∀ p q, a ≤ p → p ≤ q → q < m → stB num lt d[q]! d[p]! = false := fun p q hp hpq hq => by
      rcases Nat.lt_or_ge p q with h | h'
      · exact ‹Two num lt a m b d›.left p q hp h hq
      · have : p = q := by omega
        subst this; exact S'.irrefl _
    have rights : ∀ p q, m ≤ p → p ≤ q → q < b → stB num lt d[q]! d[p]! = false := fun p q hp hpq hq => by
      rcases Nat.lt_or_ge p q with h | h'
      · exact ‹Two num lt a m b d›.right p q hp h hq
      · have : p = q := by omega
        subst this; exact S'.irrefl _
    by_cases hie : i < s
    · rw [hr.out i (by omega)]
      by_cases hje : j < e
      · rw [hr.two j hj hje]
        exact lefts _ _ hi (by omega) (by omega)
      · rw [hr.out j (by omega)]
        exact S'.ntrans _ _ _ (rights e j (by omega) (by omega) hj2) (S'.ntrans _ _ _ (f1 (by omega) (by omega)) (lefts i (s - 1) hi (by omega) (by omega)))
    · rw [hr.one i (by omega) hi2]
      by_cases hje : j < e
      · rw [hr.two j hj hje]
        have g1 := not_swo S' (f2 (by omega) (by omega))
        refine S'.ntrans _ _ _ ?_ (rights (i - s + m) (e - 1) (by omega) (by omega) (by omega))
        cases hx : stB num lt d[j - (e - m)]! d[e - 1]!
        · rfl
        · have g2 := lefts s (j - (e - m)) (by omega) (by omega) (by omega)
          have g3 := S'.trans _ _ _ hx (f2 (by omega) (by omega))
          rw [g3] at g2; cases g2
      · rw [hr.out j (by omega)]
        exact rights _ _ (by omega) (by omega) hj2
  have hp1 : PermIn a b d d1 := permIn_mono _ _ _ _ _ _ h1 h4 hb hr.perm
  have hp2 : PermIn a b d1 d2 := permIn_mono _ _ _ _ _ _ (Nat.le_refl _) (by omega) (by omega) hl.perm
  have hp3 : PermIn a b d2 d3 := permIn_mono _ _ _ _ _ _ (by omega) (Nat.le_refl _) (by omega) hh.perm
  refine ⟨permIn_trans _ _ _ _ _ (permIn_trans _ _ _ _ _ hp1 hp2) hp3, fun i j hi hij hj => ?_⟩
  by_cases hj2 : j < s + (e - m)
  · rw [hh.perm.2.1 i (by omega), hh.perm.2.1 j (by omega)]
    exact hl.sorted i j hi hij hj2
  · by_cases hi2 : i < s + (e - m)
    · rw [hh.perm.2.1 i (by omega)]
      -- j's value is one of d1's right ones, i's one of the left ones
      have key2 : ∀ j, s + (e - m) ≤ j → j < b → ∀ i, a ≤ i → i < s + (e - m) → stB num lt d1[j]! d2[i]! = false := fun j hj hj2 =>
        permIn_all d1 d2 a (s + (e - m)) (fun x => stB num lt d1[j]! x = false) (by omega) hl.perm (fun i hi hi2 => key i j hi hi2 hj hj2)
      have key3 : ∀ j, s + (e - m) ≤ j → j < b → stB num lt d3[j]! d2[i]! = false :=
        permIn_all d2 d3 (s + (e - m)) b (fun x => stB num lt x d2[i]! = false) (by omega) hh.perm (fun j hj hj2 => by
          rw [hl.perm.2.1 j (by omega)]
          exact key2 j hj hj2 i hi hi2)
      exact key3 j (by omega) hj
    · exact hh.sorted i j (by omega) hij hj
theorem merged_left {lt : α → α → Bool} {a s e : Nat} {d : Array α} (h : Two num lt a s e d) (hn : a = s ∨ s = e) : Merged num lt a e d d :=
  ⟨permIn_refl _ _ _, by
    rcases hn with rfl | rfl
    · exact h.right
    · exact h.left⟩
end Go.Proofs.YtjaegddnikkibaaGreatDoor
