/-
  The reference's Ahead, walked.
-/
import Derived.Test.YtjaegddnikkibaaGreatDoorRfMay
import Derived.Test.YtjaegddnikkibaaGreatDoorOrdPlain
import Derived.Test.YtjaegddnikkibaaGreatDoorChkPlain
set_option linter.unusedVariables false
set_option linter.unusedSimpArgs false
namespace Go.Proofs.YtjaegddnikkibaaGreatDoor
open Go.RowKit Go.Sort

set_option maxHeartbeats 1000000 in
theorem rfAhead_any (xth xkd xbg xen xck xpl : Int) (xwr : Bool) (xdv : Value) (yth ykd ybg yen yck ypl : Int) (ywr : Bool) (ydv : Value) (x y : Att) (hx : x.pl = xpl ∧ x.wr = xwr ∧ x.en = xen) (hy : y.pl = ypl ∧ y.wr = ywr ∧ y.en = yen) (w : World) :
    Calls Tryz.prog 133 #[.agg #[.int .i64 xth, .int .u8 xkd, .int .i64 xbg, .int .i64 xen, .int .i64 xck, .int .i64 xpl, .bool xwr, xdv], .agg #[.int .i64 yth, .int .u8 ykd, .int .i64 ybg, .int .i64 yen, .int .i64 yck, .int .i64 ypl, .bool ywr, ydv]] w fun e w' => e = .returned (.bool (aheadB x y)) ∧ Below w.heap.size w w' := by
  have hA : aheadB x y = (decide (xpl < ypl) || (decide (xpl = ypl) && (decide ((if xwr then (0 : Int) else 1) < (if ywr then (0 : Int) else 1)) || (decide ((if xwr then (0 : Int) else 1) = (if ywr then (0 : Int) else 1)) && decide (xen < yen))))) := by
    unfold aheadB wv
    rw [hx.1, hx.2.1, hx.2.2, hy.1, hy.2.1, hy.2.2]
  obtain ⟨R, hR⟩ : ∃ R, aheadB x y = R := ⟨_, rfl⟩
  rw [hR] at hA ⊢
  clear hR hx hy
  have hE := Lib.hid (fun o1 o2 => ((Below.refl w.heap.size w).alloc (Nat.le_refl _) o1).alloc (by simp) o2)
  by_cases h1 : xpl = ypl
  · have t1 : (xpl == ypl) = true := by simpa using h1
    have t1b : (xpl != ypl) = false := by simpa using h1
    have t1c : decide (xpl = ypl) = true := by simpa using h1
    cases xwr <;> cases ywr
    · have hF : Hid (R = decide (xen < yen)) := Lib.hid (by rw [hA]; simp [h1])
      clear hA h1
      go_enter Tryz.func133, Tryz.ntmps133
      go_wp2_with fail
      go_ret
      exact ⟨by rw [hF.out]; first | done | rfl | simp, hE.out _ _⟩
    · have hF : Hid (R = false) := Lib.hid (by rw [hA]; simp [h1])
      clear hA h1
      go_enter Tryz.func133, Tryz.ntmps133
      go_wp2_with fail
      go_ret
      exact ⟨by rw [hF.out]; first | done | rfl | simp, hE.out _ _⟩
    · have hF : Hid (R = true) := Lib.hid (by rw [hA]; simp [h1])
      clear hA h1
      go_enter Tryz.func133, Tryz.ntmps133
      go_wp2_with fail
      go_ret
      exact ⟨by rw [hF.out]; first | done | rfl | simp, hE.out _ _⟩
    · have hF : Hid (R = decide (xen < yen)) := Lib.hid (by rw [hA]; simp [h1])
      clear hA h1
      go_enter Tryz.func133, Tryz.ntmps133
      go_wp2_with fail
      go_ret
      exact ⟨by rw [hF.out]; first | done | rfl | simp, hE.out _ _⟩
  · have t1 : (xpl == ypl) = false := by simpa using h1
    have t1b : (xpl != ypl) = true := by simpa using h1
    have t1c : decide (xpl = ypl) = false := by simpa using h1
    have hF : Hid (R = decide (xpl < ypl)) := Lib.hid (by rw [hA]; simp [h1])
    clear hA h1
    go_enter Tryz.func133, Tryz.ntmps133
    go_wp2_with fail
    go_ret
    exact ⟨by rw [hF.out]; first | done | rfl | simp, hE.out _ _⟩
end Go.Proofs.YtjaegddnikkibaaGreatDoor
namespace Go.Proofs.YtjaegddnikkibaaGreatDoor
open Go.RowKit Go.Sort Go.Maps

/-- the first k attempts' committed ones, in order -/
structure InS (l : List Att) (k : Nat) (s : List Int) : Prop where
  perm : s.Perm (committed 0 (l.take k))
  sorted : s.Pairwise (fun p q => stB id (ltN l) q p = false)
theorem InS.start (l : List Att) : InS l 0 [] := ⟨List.Perm.refl _, List.Pairwise.nil⟩
theorem InS.idx {l : List Att} {k : Nat} {s : List Int} (h : InS l k s) {i : Int} (hi : i ∈ s) : ∃ j : Nat, i = j ∧ j < k ∧ j < l.length := by
  obtain ⟨j, hj, x, hx, -⟩ := (committed_mem _ 0 i).1 (h.perm.mem_iff.1 hi)
  have := (List.getElem?_eq_some_iff.1 hx).1
  rw [List.length_take] at this
  exact ⟨j, by simpa using hj, by omega, by omega⟩
theorem InS.len {l : List Att} {k : Nat} {s : List Int} (h : InS l k s) : s.length ≤ l.length := by
  rw [h.perm.length_eq]
  have := committed_len (l.take k) 0
  rw [List.length_take] at this
  omega
theorem InS.done {l : List Att} {s : List Int} (h : InS l l.length s) : s = orderV l := orderV_of (by have := h.perm; rwa [List.take_length] at this) h.sorted
theorem InS.skip {l : List Att} {k : Nat} {s : List Int} (h : InS l k s) (hk : k < l.length) (hkd : l[k].kd ≠ 1) : InS l (k + 1) s :=
  ⟨by rw [committed_take hk, if_neg hkd, List.append_nil]; exact h.perm, h.sorted⟩
theorem InS.ins {l : List Att} {k : Nat} {s : List Int} (h : InS l k s) (hk : k < l.length) (hkd : l[k].kd = 1) {a : Nat} (ha : a ≤ s.length) (hlo : ∀ j (hj : j < s.length), j + 1 = a → ltN l (k : Int) s[j] = false) (hhi : ∀ j (hj : j < s.length), a ≤ j → ltN l (k : Int) s[j] = true) :
    InS l (k + 1) (s.take a ++ (k : Int) :: s.drop a) := by
  have S := ltN_swo l
  have hs : (s.take a ++ s.drop a).Pairwise (fun p q => stB id (ltN l) q p = false) := by rw [List.take_append_drop]; exact h.sorted
  obtain ⟨h1, h2, h3⟩ := List.pairwise_append.1 hs
  refine ⟨?_, ?_⟩
  · refine List.perm_middle.trans ?_
    rw [List.take_append_drop, committed_take hk, if_pos hkd]
    exact ((h.perm.cons (k : Int)).trans (List.perm_append_singleton _ _).symm)
  · refine List.pairwise_append.2 ⟨h1, List.pairwise_cons.2 ⟨fun q hq => ?_, h2⟩, fun p hp q hq => ?_⟩
    · obtain ⟨j, hj, rfl⟩ := List.mem_iff_getElem.1 hq
      rw [List.length_drop] at hj
      rw [List.getElem_drop]
      have e := hhi (a + j) (by omega) (by omega)
      have e2 := not_swo S e
      unfold stB
      rw [e, e2]; rfl
    · rcases List.mem_cons.1 hq with rfl | hq
      · obtain ⟨j, hj, rfl⟩ := List.mem_iff_getElem.1 hp
        rw [List.length_take] at hj
        rw [List.getElem_take]
        have hr := hlo (a - 1) (by omega) (by omega)
        have hkj : ltN l (k : Int) s[j] = false := by
          by_cases e : j = a - 1
          · subst e; exact hr
          · have := List.pairwise_iff_getElem.1 h.sorted j (a - 1) (by omega) (by omega) (by omega)
            unfold stB at this
            rw [Bool.or_eq_false_iff] at this
            exact S.ntrans _ _ _ hr this.1
        obtain ⟨m, hm, hmk, -⟩ := h.idx (List.getElem_mem (show j < s.length by omega))
        unfold stB
        rw [hkj, hm]
        simp only [id, Bool.false_or, Bool.and_eq_false_iff, decide_eq_false_iff_not]
        right; omega
      · exact h3 p hp q hq
/-- the row while it is shifted: place m is free -/
def holeS (s : List Int) (m : Nat) : List Int := (s ++ [0]).take (m + 1) ++ s.drop m
theorem holeS_start (s : List Int) : holeS s s.length = s ++ [0] := by
  unfold holeS
  rw [List.drop_length, List.append_nil, List.take_of_length_le (by simp)]
theorem holeS_len {s : List Int} {m : Nat} (h : m ≤ s.length) : (holeS s m).length = s.length + 1 := by
  unfold holeS
  rw [List.length_append, List.length_take, List.length_drop, List.length_append, List.length_singleton]; omega
theorem holeS_get {s : List Int} {m : Nat} (h : m < s.length) : (holeS s (m + 1))[m]? = some s[m] := by
  unfold holeS
  rw [List.getElem?_append_left (by rw [List.length_take, List.length_append, List.length_singleton]; omega), List.getElem?_take_of_lt (by omega), List.getElem?_append_left h, List.getElem?_eq_getElem h]
theorem holeS_split {s : List Int} {m : Nat} (h : m ≤ s.length) (x : Int) : (holeS s m).set m x = s.take m ++ x :: s.drop m := by
  unfold holeS
  have e : (s ++ [0]).take (m + 1) = s.take m ++ [(s ++ [0])[m]'(by simp; omega)] := by
    rw [List.take_succ_eq_append_getElem (by simp; omega), List.take_append_of_le_length h]
  rw [e, List.append_assoc, List.set_append_right _ _ (by rw [List.length_take]; omega), List.length_take, Nat.min_eq_left h, Nat.sub_self]
  rfl
theorem holeS_step {s : List Int} {m : Nat} (h : m < s.length) : (holeS s (m + 1)).set (m + 1) s[m] = holeS s m := by
  rw [holeS_split (by omega)]
  unfold holeS
  rw [List.take_append_of_le_length (by omega), List.drop_eq_getElem_cons h]
end Go.Proofs.YtjaegddnikkibaaGreatDoor
