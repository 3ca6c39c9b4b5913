/-
  show: what a writer holds; a type, written.
-/
import Derived.Test.YtblnmlbkgdncnaaDoorShowBuild
import Derived.Test.YtblnmlbkgdncnaaDoorShelfB
import Derived.Test.YtblnmlbkgdncnaaDoorTreeB
import Derived.Test.YtblnmlbkgdncnaaDoorRegion
import Derived.Test.YtblnmlbkgdncnaaDoorTreePlain4
set_option linter.unusedVariables false
set_option linter.unusedSimpArgs false
namespace Go.Proofs.YtblnmlbkgdncnaaDoor
open Go.RowKit

/-- the state of a text's writing: what the builder holds, and what lies below it -/
structure TxSt (Bb : Nat) (wB : World) (t : List UInt8) (W : World) : Prop where
  wr : Writes Bb Bb t W
  bel : Below Bb wB W
theorem TxSt.lt {Bb : Nat} {wB W : World} {t : List UInt8} (h : TxSt Bb wB t W) : Bb < W.heap.size := h.wr.lt
theorem TxSt.keep {Bb : Nat} {wB W w' : World} {t : List UInt8} (h : TxSt Bb wB t W) (hk : Below W.heap.size W w') : TxSt Bb wB t w' :=
  ⟨h.wr.keep (hk.block Bb h.lt) (fun k hr => hk.block k (h.wr.row_lt hr).2.1), h.bel.trans (hk.mono (Nat.le_of_lt h.lt))⟩
/-- all blocks stay but for the builder's -/
def Stay (Bb : Nat) (W w' : World) : Prop := ∀ k o, W.heap[k]? = some o → k ≠ Bb → (∀ cs fz, o ≠ .cells cs 5 fz) → w'.heap[k]? = some o
theorem Stay.refl (Bb : Nat) (W : World) : Stay Bb W W := fun _ _ h _ _ => h
theorem Stay.trans {Bb : Nat} {a b c : World} (h : Stay Bb a b) (g : Stay Bb b c) : Stay Bb a c := fun k o hk hn ho => g k o (h k o hk hn ho) hn ho
theorem lt_of_blk {w : World} {k : Nat} {o : Obj} (h : w.heap[k]? = some o) : k < w.heap.size := (Array.getElem?_eq_some_iff.1 h).1
theorem Stay.of {Bb : Nat} {W w' : World} (h : Below W.heap.size W w') : Stay Bb W w' := fun k o hk _ _ => (h.block k (lt_of_blk hk)).trans hk
/-- what a write leaves -/
structure TxOut (Bb : Nat) (wB : World) (t : List UInt8) (W w' : World) : Prop where
  st : TxSt Bb wB t w'
  stay : Stay Bb W w'
theorem TxOut.refl {Bb : Nat} {wB W : World} {t : List UInt8} (h : TxSt Bb wB t W) : TxOut Bb wB t W W := ⟨h, .refl _ _⟩
theorem TxOut.trans {Bb : Nat} {wB a b c : World} {t u : List UInt8} (h : TxOut Bb wB t a b) (g : TxOut Bb wB u b c) : TxOut Bb wB u a c := ⟨g.st, h.stay.trans g.stay⟩
theorem TxOut.below {Bb : Nat} {wB a b c : World} {t : List UInt8} (h : TxOut Bb wB t a b) (g : Below b.heap.size b c) : TxOut Bb wB t a c := ⟨h.st.keep g, h.stay.trans (.of g)⟩
theorem TxOut.eq {Bb : Nat} {wB a b : World} {t u : List UInt8} (h : TxOut Bb wB t a b) (e : t = u) : TxOut Bb wB u a b := e ▸ h
theorem blk_kept {S : Nat → Prop} {w w' : World} (h : Kept S w w') {k : Nat} {o : Obj} (hk : w.heap[k]? = some o) (hs : ¬ S k) : w'.heap[k]? = some o :=
  (h.block k (lt_of_blk hk) hs).trans hk
theorem TxSt.not {Bb : Nat} {wB W : World} {t : List UInt8} (h : TxSt Bb wB t W) {k : Nat} {o : Obj} (hk : W.heap[k]? = some o) (ho : ∀ cs fz, o ≠ .cells cs 5 fz) (hne : k ≠ Bb) : ¬ OwnB W Bb k := fun hh => by
  rcases hh with hh | hh
  · exact hne hh
  · exact h.wr.row_ne (.inl fun cs fz e => by rw [hk] at e; injection e with e; exact ho cs fz e) hh
theorem put_any (Bb : Nat) (wB : World) (t s : List UInt8) (W : World) (h : TxSt Bb wB t W) (hl : t.length + s.length ≤ 140737488355328) :
    Calls Tryd.prog 25 #[.pointer (some ⟨Bb, 0, none⟩), .string ⟨s.toArray⟩] W fun e w' => e = .returned (.tuple #[.int .i64 s.length, .nilIface]) ∧ TxOut Bb wB (t ++ s) W w' :=
  (wstr_any Bb Bb t s W h.wr hl (Nat.le_of_lt h.lt)).mono fun _ _ ⟨h1, h2, h3, h4⟩ => ⟨h1, ⟨⟨h2, h.bel.trans h3⟩, fun _ _ hk hn ho => blk_kept h4 hk (h.not hk ho hn)⟩⟩
theorem put_any' (Bb : Nat) (wB : World) (t s : List UInt8) (S : ByteArray) (hS : S = ⟨s.toArray⟩) (W : World) (h : TxSt Bb wB t W) (hl : t.length + s.length ≤ 140737488355328) :
    Calls Tryd.prog 25 #[.pointer (some ⟨Bb, 0, none⟩), .string S] W fun e w' => e = .returned (.tuple #[.int .i64 s.length, .nilIface]) ∧ TxOut Bb wB (t ++ s) W w' := by
  subst hS
  exact put_any Bb wB t s W h hl
theorem cat_b (a b : List UInt8) : (⟨a.toArray⟩ : ByteArray) ++ ⟨b.toArray⟩ = ⟨(a ++ b).toArray⟩ := by
  apply ByteArray.ext
  simp
theorem cat_b3 (a b c : List UInt8) : (⟨a.toArray⟩ : ByteArray) ++ ⟨b.toArray⟩ ++ ⟨c.toArray⟩ = ⟨((a ++ b) ++ c).toArray⟩ := by
  rw [cat_b, cat_b]

/-- a type's box -/
abbrev tyObj (t : Ty) : Obj := .cells #[.int .u8 t.k, .string ⟨t.nm.toArray⟩, .int .i64 t.n] 24 (0, 0)
theorem tyObj_ne (t : Ty) : ∀ cs fz, tyObj t ≠ .cells cs 5 fz := fun cs fz e => by injection e with _ e; exact absurd e (by decide)

set_option maxHeartbeats 4000000 in
set_option maxRecDepth 100000 in
theorem styp_any (Bb : Nat) (wB : World) (t : List UInt8) (ty : Ty) (W : World) (h : TxSt Bb wB t W) (G : Globs W) (hty : ty.Ok) (hl : t.length + (tyText ty).length ≤ 140737488355328) :
    Calls Tryd.prog 15 #[.pointer (some ⟨Bb, 0, none⟩), ty.val] W fun e w' => e = .returned (.tuple #[]) ∧ TxOut Bb wB (t ++ tyText ty) W w' := by
  obtain ⟨k, nm, n⟩ := ty
  obtain ⟨hk, hnm, hn⟩ := hty
  dsimp only at hk hnm hn ⊢
  obtain ⟨X, hX⟩ : ∃ X, W.heap.size = X := ⟨_, rfl⟩
  obtain ⟨w1, hw1⟩ : ∃ w1, W.alloc (tyObj ⟨k, nm, n⟩) = w1 := ⟨_, rfl⟩
  have hb1 : Below W.heap.size W w1 := by rw [← hw1]; exact (Below.refl _ _).alloc (Nat.le_refl _) _
  have x1 : w1.heap[X]? = some (tyObj ⟨k, nm, n⟩) := by rw [← hw1, ← hX]; exact heap_alloc_new W _
  have hXB : X ≠ Bb := by have := h.lt; omega
  have O1 := Lib.hid (TxOut.refl (h.keep hb1))
  have HW0 : Hid (Stay Bb W w1) := Lib.hid (.of hb1)
  have G1 := Lib.hid (G.below hb1)
  have HRow : Hid (∀ W', Stay Bb w1 W' → W'.heap[X]? = some (tyObj ⟨k, nm, n⟩)) := Lib.hid fun W' hs => hs X _ x1 hXB (tyObj_ne _)
  have HN := Lib.hid (And.intro hX hw1)
  have HIt := Lib.hid (itoa_any n hn.1 hn.2)
  have HLi := Lib.hid (And.intro hl hnm)
  have q0 := cell_at x1 0
  have q1 := cell_at x1 1
  have q2 := cell_at x1 2
  simp only [List.getElem?_toArray, List.getElem?_cons_zero, List.getElem?_cons_succ] at q0 q1 q2
  clear hX hw1 hb1 x1 hXB h G hl hnm hn hk
  have hTl : tyText ⟨k, nm, n⟩ = (if k = 3 then 91 :: (Lib.itoa n ++ [93]) else []) ++ ((if nm = [] then [105, 110, 116] else []) ++ nm) := rfl
  by_cases hk3 : k = 3
  · subst hk3
    rw [if_pos rfl] at hTl
    have HL := Lib.hid (show t.length + ((Lib.itoa n).length + 2 + ((if nm = [] then [105, 110, 116] else ([] : List UInt8)) ++ nm).length) ≤ 140737488355328 by have := HLi.out.1; rw [hTl] at this; simp only [List.length_append, List.length_cons, List.length_nil] at this ⊢; omega)
    rw [hTl]
    obtain ⟨T, hT⟩ : ∃ T, t ++ (91 :: (Lib.itoa n ++ [93]) ++ ((if nm = [] then [105, 110, 116] else []) ++ nm)) = T := ⟨_, rfl⟩
    rw [hT]
    have HT := Lib.hid hT
    clear hTl HLi hT
    generalize Lib.itoa n = it at *
    have c1 : ¬ (9223372036854775807 < 1 + it.length) := by have := HL.out; omega
    have c2 : ¬ (9223372036854775807 < 1 + it.length + 1) := by have := HL.out; omega
    go_enter Tryd.func15, Tryd.ntmps15
    go_wp2_with fail
    simp only [HN.out.1, HN.out.2]
    go_wp2_with fail
    refine wp_region_L (l := 8) (S := (fun W' => W'.cell? ⟨X, 2, none⟩ = some (.int .i64 n))) (by kernel_rfl) ?_ (fun hHeld => ?_)
    · ((try dsimp only); (exact q2))
    refine wpAnyL_take (i := 0) (oi := _) (v := ?v1) rfl (by kernel_rfl) (fun _ _ _ h => h) (by assumption) (Or.inl ⟨by kernel_rfl, ?y1⟩) ?r1
    case y1 => (intro w hSw; (try dsimp only at hSw); go_simp; all_goals with_reducible rfl)
    try simp only [List.getElem_toArray, List.getElem_cons_zero, List.getElem_cons_succ, Act.put, List.setIfInBounds_toArray, List.set_cons_zero, List.set_cons_succ]
    refine wpAnyL_take (i := 1) (oi := _) (v := ?v2) rfl (by kernel_rfl) (fun _ _ _ h => h) (by assumption) (Or.inl ⟨by kernel_rfl, ?y2⟩) ?r2
    case y2 => (intro w hSw; (try dsimp only at hSw); go_simp; all_goals with_reducible rfl)
    try simp only [List.getElem_toArray, List.getElem_cons_zero, List.getElem_cons_succ, Act.put, List.setIfInBounds_toArray, List.set_cons_zero, List.set_cons_succ]
    refine wpAnyL_take (i := 2) (oi := _) (v := ?v3) rfl (by kernel_rfl) (fun _ _ _ h => h) (by assumption) (Or.inl ⟨by kernel_rfl, ?y3⟩) ?r3
    case y3 => (intro w hSw; (try dsimp only at hSw); go_simp; all_goals with_reducible rfl)
    try simp only [List.getElem_toArray, List.getElem_cons_zero, List.getElem_cons_succ, Act.put, List.setIfInBounds_toArray, List.set_cons_zero, List.set_cons_succ]
    refine wpAnyL_take (i := 3) (oi := _) (v := ?v4) rfl (by kernel_rfl) (fun _ _ _ h => h) (by assumption) (Or.inl ⟨by kernel_rfl, ?y4⟩) ?r4
    case y4 => (intro w hSw; (try dsimp only at hSw); go_simp; all_goals with_reducible rfl)
    try simp only [List.getElem_toArray, List.getElem_cons_zero, List.getElem_cons_succ, Act.put, List.setIfInBounds_toArray, List.set_cons_zero, List.set_cons_succ]
    refine wpAnyL_take (i := 4) (oi := _) (v := ?v5) rfl (by kernel_rfl) (fun _ _ _ h => h) (by assumption) (Or.inl ⟨by kernel_rfl, ?y5⟩) ?r5
    case y5 => (intro w hSw; (try dsimp only at hSw); go_simp; all_goals with_reducible rfl)
    try simp only [List.getElem_toArray, List.getElem_cons_zero, List.getElem_cons_succ, Act.put, List.setIfInBounds_toArray, List.set_cons_zero, List.set_cons_succ]
    refine wpAnyL_step (j := 5) (o := _) (by kernel_rfl) rfl (fun K hK => ?_)
    (go_simp; go_at_call 32; refine (HIt.out _ (G1.out.below (Below.refl _ _).drew)).mono ?_; rintro e w2 ⟨rfl, hb2⟩; have O2 := Lib.hid (O1.out.below ((below_drewN _ w1 1).trans hb2)); clear hb2)
    refine hK _ _ ?_ (fun hHeld => ?_)
    · ((try dsimp only); ((exact cell_at (HRow.out _ O2.out.stay) 2)))
    clear hK K
    try simp only [List.getElem_toArray, List.getElem_cons_zero, List.getElem_cons_succ, Act.put, List.setIfInBounds_toArray, List.set_cons_zero, List.set_cons_succ]
    refine wpAnyL_take (i := 6) (oi := _) (v := ?v7) rfl (by kernel_rfl) (fun _ _ _ h => h) (by assumption) (Or.inl ⟨by kernel_rfl, ?y7⟩) ?r7
    case y7 => (intro w hSw; (try dsimp only at hSw); go_simp; all_goals with_reducible rfl)
    try simp only [List.getElem_toArray, List.getElem_cons_zero, List.getElem_cons_succ, Act.put, List.setIfInBounds_toArray, List.set_cons_zero, List.set_cons_succ]
    refine wpAnyL_take (i := 7) (oi := _) (v := ?v8) rfl (by kernel_rfl) (fun _ _ _ h => h) (by assumption) (Or.inl ⟨by kernel_rfl, ?y8⟩) ?r8
    case y8 => (intro w hSw; (try dsimp only at hSw); go_simp; all_goals with_reducible rfl)
    try simp only [List.getElem_toArray, List.getElem_cons_zero, List.getElem_cons_succ, Act.put, List.setIfInBounds_toArray, List.set_cons_zero, List.set_cons_succ]
    refine wpAnyL_last (j := 8) (o := _) (by kernel_rfl) rfl (by rfl) (by kernel_rfl) (fun K hK => ?_)
    (go_simp; go_at_call 25; refine (put_any' Bb wB t (91 :: it ++ [93]) _ (cat_b3 [91] it [93]) _ O2.out.st (by have := HL.out; simp; omega)).mono ?_; rintro e w3 ⟨rfl, hO3⟩; have O3 := Lib.hid (O2.out.trans hO3); clear hO3)
    (refine hK _ _ ?_; clear hK K)
    try simp only [List.getElem_toArray, List.getElem_cons_zero, List.getElem_cons_succ, Act.put, List.setIfInBounds_toArray, List.set_cons_zero, List.set_cons_succ]
    clear q0 q1 q2 hHeld c1 c2 O2
    have row := HRow.out _ O3.out.stay
    have q1 := cell_at row 1
    simp only [List.getElem?_toArray, List.getElem?_cons_zero, List.getElem?_cons_succ] at q1
    clear row
    by_cases hnm : nm = []
    · rw [if_pos hnm] at HT HL
      go_wp2_with fail
      clear q1
      refine (put_any' Bb wB (t ++ (91 :: it ++ [93])) [105, 110, 116] _ rfl _ O3.out.st (by have := HL.out; simp at this ⊢; omega)).mono ?_
      rintro e w4 ⟨rfl, hO4⟩
      have O4 := Lib.hid (O3.out.trans hO4)
      clear hO4
      obtain rfl : ((t ++ (91 :: it ++ [93])) ++ [105, 110, 116]) ++ nm = T := by rw [← HT.out]; simp
      clear hnm
      have row := HRow.out _ O4.out.stay
      have q1 := cell_at row 1
      simp only [List.getElem?_toArray, List.getElem?_cons_zero, List.getElem?_cons_succ] at q1
      clear row
      go_wp2_with fail
      refine wp_region_L (l := 5) (S := (fun W' => W'.cell? ⟨X, 1, none⟩ = some (.string ⟨nm.toArray⟩))) (by kernel_rfl) ?_ (fun hHeld => ?_)
      · ((try dsimp only); (exact q1))
      refine wpAnyL_take (i := 0) (oi := _) (v := ?v10) rfl (by kernel_rfl) (fun _ _ _ h => h) (by assumption) (Or.inl ⟨by kernel_rfl, ?y10⟩) ?r10
      case y10 => (intro w hSw; (try dsimp only at hSw); go_simp; all_goals with_reducible rfl)
      try simp only [List.getElem_toArray, List.getElem_cons_zero, List.getElem_cons_succ, Act.put, List.setIfInBounds_toArray, List.set_cons_zero, List.set_cons_succ]
      refine wpAnyL_take (i := 1) (oi := _) (v := ?v11) rfl (by kernel_rfl) (fun _ _ _ h => h) (by assumption) (Or.inl ⟨by kernel_rfl, ?y11⟩) ?r11
      case y11 => (intro w hSw; (try dsimp only at hSw); go_simp; all_goals with_reducible rfl)
      try simp only [List.getElem_toArray, List.getElem_cons_zero, List.getElem_cons_succ, Act.put, List.setIfInBounds_toArray, List.set_cons_zero, List.set_cons_succ]
      refine wpAnyL_take (i := 2) (oi := _) (v := ?v12) rfl (by kernel_rfl) (fun _ _ _ h => h) (by assumption) (Or.inl ⟨by kernel_rfl, ?y12⟩) ?r12
      case y12 => (intro w hSw; (try dsimp only at hSw); go_simp; all_goals with_reducible rfl)
      try simp only [List.getElem_toArray, List.getElem_cons_zero, List.getElem_cons_succ, Act.put, List.setIfInBounds_toArray, List.set_cons_zero, List.set_cons_succ]
      refine wpAnyL_take (i := 3) (oi := _) (v := ?v13) rfl (by kernel_rfl) (fun _ _ _ h => h) (by assumption) (Or.inl ⟨by kernel_rfl, ?y13⟩) ?r13
      case y13 => (intro w hSw; (try dsimp only at hSw); go_simp; all_goals with_reducible rfl)
      try simp only [List.getElem_toArray, List.getElem_cons_zero, List.getElem_cons_succ, Act.put, List.setIfInBounds_toArray, List.set_cons_zero, List.set_cons_succ]
      refine wpAnyL_take (i := 4) (oi := _) (v := ?v14) rfl (by kernel_rfl) (fun _ _ _ h => h) (by assumption) (Or.inl ⟨by kernel_rfl, ?y14⟩) ?r14
      case y14 => (intro w hSw; (try dsimp only at hSw); go_simp; all_goals with_reducible rfl)
      try simp only [List.getElem_toArray, List.getElem_cons_zero, List.getElem_cons_succ, Act.put, List.setIfInBounds_toArray, List.set_cons_zero, List.set_cons_succ]
      refine wpAnyL_last (j := 5) (o := _) (by kernel_rfl) rfl (by rfl) (by kernel_rfl) (fun K hK => ?_)
      (go_simp; go_at_call 25; refine (put_any' Bb wB ((t ++ (91 :: it ++ [93])) ++ [105, 110, 116]) nm _ rfl _ (O4.out.st.keep (Below.refl _ _).drew) (by have := HL.out; simp at this ⊢; omega)).mono ?_; rintro e w5 ⟨rfl, hO5⟩; have O5 := Lib.hid ((O4.out.below (Below.refl _ _).drew).trans hO5); clear hO5)
      (refine hK _ _ ?_; clear hK K)
      try simp only [List.getElem_toArray, List.getElem_cons_zero, List.getElem_cons_succ, Act.put, List.setIfInBounds_toArray, List.set_cons_zero, List.set_cons_succ]
      clear q1 hHeld
      go_wp2_with fail
      go_end0
      exact ⟨rfl, O5.out.st, HW0.out.trans O5.out.stay⟩
    · rw [if_neg hnm] at HT HL
      have hnm2 : nm.isEmpty = false := by simpa using hnm
      go_wp2_with fail
      clear q1 hnm2
      obtain rfl : (t ++ (91 :: it ++ [93])) ++ nm = T := by rw [← HT.out]; simp
      have row := HRow.out _ O3.out.stay
      have q1 := cell_at row 1
      simp only [List.getElem?_toArray, List.getElem?_cons_zero, List.getElem?_cons_succ] at q1
      clear row
      go_wp2_with fail
      refine wp_region_L (l := 5) (S := (fun W' => W'.cell? ⟨X, 1, none⟩ = some (.string ⟨nm.toArray⟩))) (by kernel_rfl) ?_ (fun hHeld => ?_)
      · ((try dsimp only); (exact q1))
      refine wpAnyL_take (i := 0) (oi := _) (v := ?v16) rfl (by kernel_rfl) (fun _ _ _ h => h) (by assumption) (Or.inl ⟨by kernel_rfl, ?y16⟩) ?r16
      case y16 => (intro w hSw; (try dsimp only at hSw); go_simp; all_goals with_reducible rfl)
      try simp only [List.getElem_toArray, List.getElem_cons_zero, List.getElem_cons_succ, Act.put, List.setIfInBounds_toArray, List.set_cons_zero, List.set_cons_succ]
      refine wpAnyL_take (i := 1) (oi := _) (v := ?v17) rfl (by kernel_rfl) (fun _ _ _ h => h) (by assumption) (Or.inl ⟨by kernel_rfl, ?y17⟩) ?r17
      case y17 => (intro w hSw; (try dsimp only at hSw); go_simp; all_goals with_reducible rfl)
      try simp only [List.getElem_toArray, List.getElem_cons_zero, List.getElem_cons_succ, Act.put, List.setIfInBounds_toArray, List.set_cons_zero, List.set_cons_succ]
      refine wpAnyL_take (i := 2) (oi := _) (v := ?v18) rfl (by kernel_rfl) (fun _ _ _ h => h) (by assumption) (Or.inl ⟨by kernel_rfl, ?y18⟩) ?r18
      case y18 => (intro w hSw; (try dsimp only at hSw); go_simp; all_goals with_reducible rfl)
      try simp only [List.getElem_toArray, List.getElem_cons_zero, List.getElem_cons_succ, Act.put, List.setIfInBounds_toArray, List.set_cons_zero, List.set_cons_succ]
      refine wpAnyL_take (i := 3) (oi := _) (v := ?v19) rfl (by kernel_rfl) (fun _ _ _ h => h) (by assumption) (Or.inl ⟨by kernel_rfl, ?y19⟩) ?r19
      case y19 => (intro w hSw; (try dsimp only at hSw); go_simp; all_goals with_reducible rfl)
      try simp only [List.getElem_toArray, List.getElem_cons_zero, List.getElem_cons_succ, Act.put, List.setIfInBounds_toArray, List.set_cons_zero, List.set_cons_succ]
      refine wpAnyL_take (i := 4) (oi := _) (v := ?v20) rfl (by kernel_rfl) (fun _ _ _ h => h) (by assumption) (Or.inl ⟨by kernel_rfl, ?y20⟩) ?r20
      case y20 => (intro w hSw; (try dsimp only at hSw); go_simp; all_goals with_reducible rfl)
      try simp only [List.getElem_toArray, List.getElem_cons_zero, List.getElem_cons_succ, Act.put, List.setIfInBounds_toArray, List.set_cons_zero, List.set_cons_succ]
      refine wpAnyL_last (j := 5) (o := _) (by kernel_rfl) rfl (by rfl) (by kernel_rfl) (fun K hK => ?_)
      (go_simp; go_at_call 25; refine (put_any' Bb wB (t ++ (91 :: it ++ [93])) nm _ rfl _ (O3.out.st.keep (Below.refl _ _).drew) (by have := HL.out; simp at this ⊢; omega)).mono ?_; rintro e w5 ⟨rfl, hO5⟩; have O5 := Lib.hid ((O3.out.below (Below.refl _ _).drew).trans hO5); clear hO5)
      (refine hK _ _ ?_; clear hK K)
      try simp only [List.getElem_toArray, List.getElem_cons_zero, List.getElem_cons_succ, Act.put, List.setIfInBounds_toArray, List.set_cons_zero, List.set_cons_succ]
      clear q1 hHeld
      go_wp2_with fail
      go_end0
      exact ⟨rfl, O5.out.st, HW0.out.trans O5.out.stay⟩
  · rw [if_neg hk3] at hTl
    have HL := Lib.hid (show t.length + ((if nm = [] then [105, 110, 116] else ([] : List UInt8)) ++ nm).length ≤ 140737488355328 by have := HLi.out.1; rw [hTl] at this; simpa using this)
    have k3 : (k == 3) = false := by simpa using hk3
    rw [hTl]
    obtain ⟨T, hT⟩ : ∃ T, t ++ ([] ++ ((if nm = [] then [105, 110, 116] else []) ++ nm)) = T := ⟨_, rfl⟩
    rw [hT]
    have HT := Lib.hid hT
    clear hTl HLi hT hk3 q1 q2
    by_cases hnm : nm = []
    · rw [if_pos hnm] at HT HL
      have hnm2 : nm.isEmpty = true := by simpa using hnm
      clear hnm
      go_enter Tryd.func15, Tryd.ntmps15
      go_wp2_with fail
      simp only [HN.out.1, HN.out.2]
      clear q0 k3 hnm2
      refine (put_any' Bb wB t [105, 110, 116] _ rfl w1 O1.out.st (by have := HL.out; simp at this ⊢; omega)).mono ?_
      rintro e w4 ⟨rfl, hO4⟩
      have O4 := Lib.hid (O1.out.trans hO4)
      clear hO4
      obtain rfl : (t ++ [105, 110, 116]) ++ nm = T := by rw [← HT.out]; simp
      have row := HRow.out _ O4.out.stay
      have q1 := cell_at row 1
      simp only [List.getElem?_toArray, List.getElem?_cons_zero, List.getElem?_cons_succ] at q1
      clear row
      go_wp2_with fail
      refine wp_region_L (l := 5) (S := (fun W' => W'.cell? ⟨X, 1, none⟩ = some (.string ⟨nm.toArray⟩))) (by kernel_rfl) ?_ (fun hHeld => ?_)
      · ((try dsimp only); (exact q1))
      refine wpAnyL_take (i := 0) (oi := _) (v := ?v22) rfl (by kernel_rfl) (fun _ _ _ h => h) (by assumption) (Or.inl ⟨by kernel_rfl, ?y22⟩) ?r22
      case y22 => (intro w hSw; (try dsimp only at hSw); go_simp; all_goals with_reducible rfl)
      try simp only [List.getElem_toArray, List.getElem_cons_zero, List.getElem_cons_succ, Act.put, List.setIfInBounds_toArray, List.set_cons_zero, List.set_cons_succ]
      refine wpAnyL_take (i := 1) (oi := _) (v := ?v23) rfl (by kernel_rfl) (fun _ _ _ h => h) (by assumption) (Or.inl ⟨by kernel_rfl, ?y23⟩) ?r23
      case y23 => (intro w hSw; (try dsimp only at hSw); go_simp; all_goals with_reducible rfl)
      try simp only [List.getElem_toArray, List.getElem_cons_zero, List.getElem_cons_succ, Act.put, List.setIfInBounds_toArray, List.set_cons_zero, List.set_cons_succ]
      refine wpAnyL_take (i := 2) (oi := _) (v := ?v24) rfl (by kernel_rfl) (fun _ _ _ h => h) (by assumption) (Or.inl ⟨by kernel_rfl, ?y24⟩) ?r24
      case y24 => (intro w hSw; (try dsimp only at hSw); go_simp; all_goals with_reducible rfl)
      try simp only [List.getElem_toArray, List.getElem_cons_zero, List.getElem_cons_succ, Act.put, List.setIfInBounds_toArray, List.set_cons_zero, List.set_cons_succ]
      refine wpAnyL_take (i := 3) (oi := _) (v := ?v25) rfl (by kernel_rfl) (fun _ _ _ h => h) (by assumption) (Or.inl ⟨by kernel_rfl, ?y25⟩) ?r25
      case y25 => (intro w hSw; (try dsimp only at hSw); go_simp; all_goals with_reducible rfl)
      try simp only [List.getElem_toArray, List.getElem_cons_zero, List.getElem_cons_succ, Act.put, List.setIfInBounds_toArray, List.set_cons_zero, List.set_cons_succ]
      refine wpAnyL_take (i := 4) (oi := _) (v := ?v26) rfl (by kernel_rfl) (fun _ _ _ h => h) (by assumption) (Or.inl ⟨by kernel_rfl, ?y26⟩) ?r26
      case y26 => (intro w hSw; (try dsimp only at hSw); go_simp; all_goals with_reducible rfl)
      try simp only [List.getElem_toArray, List.getElem_cons_zero, List.getElem_cons_succ, Act.put, List.setIfInBounds_toArray, List.set_cons_zero, List.set_cons_succ]
      refine wpAnyL_last (j := 5) (o := _) (by kernel_rfl) rfl (by rfl) (by kernel_rfl) (fun K hK => ?_)
      (go_simp; go_at_call 25; refine (put_any' Bb wB (t ++ [105, 110, 116]) nm _ rfl _ (O4.out.st.keep (Below.refl _ _).drew) (by have := HL.out; simp at this ⊢; omega)).mono ?_; rintro e w5 ⟨rfl, hO5⟩; have O5 := Lib.hid ((O4.out.below (Below.refl _ _).drew).trans hO5); clear hO5)
      (refine hK _ _ ?_; clear hK K)
      try simp only [List.getElem_toArray, List.getElem_cons_zero, List.getElem_cons_succ, Act.put, List.setIfInBounds_toArray, List.set_cons_zero, List.set_cons_succ]
      clear q1 hHeld
      go_wp2_with fail
      go_end0
      exact ⟨rfl, O5.out.st, HW0.out.trans O5.out.stay⟩
    · rw [if_neg hnm] at HT HL
      have hnm2 : nm.isEmpty = false := by simpa using hnm
      go_enter Tryd.func15, Tryd.ntmps15
      go_wp2_with fail
      simp only [HN.out.1, HN.out.2]
      clear q0 k3 hnm2
      obtain rfl : t ++ nm = T := by rw [← HT.out]; simp
      have row := HRow.out _ O1.out.stay
      have q1 := cell_at row 1
      simp only [List.getElem?_toArray, List.getElem?_cons_zero, List.getElem?_cons_succ] at q1
      clear row
      go_wp2_with fail
      refine wp_region_L (l := 5) (S := (fun W' => W'.cell? ⟨X, 1, none⟩ = some (.string ⟨nm.toArray⟩))) (by kernel_rfl) ?_ (fun hHeld => ?_)
      · ((try dsimp only); (exact q1))
      refine wpAnyL_take (i := 0) (oi := _) (v := ?v28) rfl (by kernel_rfl) (fun _ _ _ h => h) (by assumption) (Or.inl ⟨by kernel_rfl, ?y28⟩) ?r28
      case y28 => (intro w hSw; (try dsimp only at hSw); go_simp; all_goals with_reducible rfl)
      try simp only [List.getElem_toArray, List.getElem_cons_zero, List.getElem_cons_succ, Act.put, List.setIfInBounds_toArray, List.set_cons_zero, List.set_cons_succ]
      refine wpAnyL_take (i := 1) (oi := _) (v := ?v29) rfl (by kernel_rfl) (fun _ _ _ h => h) (by assumption) (Or.inl ⟨by kernel_rfl, ?y29⟩) ?r29
      case y29 => (intro w hSw; (try dsimp only at hSw); go_simp; all_goals with_reducible rfl)
      try simp only [List.getElem_toArray, List.getElem_cons_zero, List.getElem_cons_succ, Act.put, List.setIfInBounds_toArray, List.set_cons_zero, List.set_cons_succ]
      refine wpAnyL_take (i := 2) (oi := _) (v := ?v30) rfl (by kernel_rfl) (fun _ _ _ h => h) (by assumption) (Or.inl ⟨by kernel_rfl, ?y30⟩) ?r30
      case y30 => (intro w hSw; (try dsimp only at hSw); go_simp; all_goals with_reducible rfl)
      try simp only [List.getElem_toArray, List.getElem_cons_zero, List.getElem_cons_succ, Act.put, List.setIfInBounds_toArray, List.set_cons_zero, List.set_cons_succ]
      refine wpAnyL_take (i := 3) (oi := _) (v := ?v31) rfl (by kernel_rfl) (fun _ _ _ h => h) (by assumption) (Or.inl ⟨by kernel_rfl, ?y31⟩) ?r31
      case y31 => (intro w hSw; (try dsimp only at hSw); go_simp; all_goals with_reducible rfl)
      try simp only [List.getElem_toArray, List.getElem_cons_zero, List.getElem_cons_succ, Act.put, List.setIfInBounds_toArray, List.set_cons_zero, List.set_cons_succ]
      refine wpAnyL_take (i := 4) (oi := _) (v := ?v32) rfl (by kernel_rfl) (fun _ _ _ h => h) (by assumption) (Or.inl ⟨by kernel_rfl, ?y32⟩) ?r32
      case y32 => (intro w hSw; (try dsimp only at hSw); go_simp; all_goals with_reducible rfl)
      try simp only [List.getElem_toArray, List.getElem_cons_zero, List.getElem_cons_succ, Act.put, List.setIfInBounds_toArray, List.set_cons_zero, List.set_cons_succ]
      refine wpAnyL_last (j := 5) (o := _) (by kernel_rfl) rfl (by rfl) (by kernel_rfl) (fun K hK => ?_)
      (go_simp; go_at_call 25; refine (put_any' Bb wB t nm _ rfl _ (O1.out.st.keep (Below.refl _ _).drew) (by have := HL.out; simp at this ⊢; omega)).mono ?_; rintro e w5 ⟨rfl, hO5⟩; have O5 := Lib.hid ((O1.out.below (Below.refl _ _).drew).trans hO5); clear hO5)
      (refine hK _ _ ?_; clear hK K)
      try simp only [List.getElem_toArray, List.getElem_cons_zero, List.getElem_cons_succ, Act.put, List.setIfInBounds_toArray, List.set_cons_zero, List.set_cons_succ]
      clear q1 hHeld
      go_wp2_with fail
      go_end0
      exact ⟨rfl, O5.out.st, HW0.out.trans O5.out.stay⟩
end Go.Proofs.YtblnmlbkgdncnaaDoor
