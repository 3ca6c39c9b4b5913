/-
  serial.Order walked.
-/
import Derived.Test.YtjaegddnikkibaaGreatDoorOrdPlain
import Derived.Test.YtjaegddnikkibaaGreatDoorChkd
set_option linter.unusedVariables false
set_option linter.unusedSimpArgs false
namespace Go.Proofs.YtjaegddnikkibaaGreatDoor
open Go.RowKit Go.Sort

theorem cmpO_of {l : List Att} {N LB b off c g n : Nat} {w0 : World} (hN : l.length = N + 1) (hbox : w0.cell? ⟨LB, 0, none⟩ = some (.slice (some ⟨b, off, none⟩) l.length c)) (hL : LB ≠ g) (hb : b < w0.heap.size) (hbg : b ≠ g)
    (hc : ∀ k x, l[k]? = some x → AttAt w0 b (off + k * 8) x) : CmpO N LB (cfL l N) w0 g 0 n := fun W d _ hW x y => by
  have lL := World.block_lt_of_cell? w0 _ hbox
  have hx : l[x.val]? = some (attN l (x.val : Int)) := by
    unfold attN
    rw [Int.toNat_natCast, List.getD_eq_getElem?_getD, List.getElem?_eq_getElem (by have := x.isLt; omega)]; rfl
  have hy : l[y.val]? = some (attN l (y.val : Int)) := by
    unfold attN
    rw [Int.toNat_natCast, List.getD_eq_getElem?_getD, List.getElem?_eq_getElem (by have := y.isLt; omega)]; rfl
  exact order1_any LB b off l.length c x.val y.val _ _ W ((World.cell?_of_block (w := w0) (a := ⟨LB, 0, none⟩) (hW.block LB lL hL)).trans hbox) (Nat.lt_of_lt_of_le hb hW.size)
    ((hc _ _ hx).keep fun o' => World.cell?_of_block (w := w0) (a := ⟨b, o', none⟩) (hW.block b hb hbg)) ((hc _ _ hy).keep fun o' => World.cell?_of_block (w := w0) (a := ⟨b, o', none⟩) (hW.block b hb hbg))
    (by have := x.isLt; omega) (by have := y.isLt; omega)

set_option maxHeartbeats 400000 in
theorem insertion_nil (f : Value) (w : World) : Calls Tryz.prog 190 #[.slice none 0 0, .int .i64 0, .int .i64 0, f] w fun e w' => e = .returned (.tuple #[]) ∧ w = w' := by
  go_enter Tryz.func190, Tryz.ntmps190
  go_wp2_with fail
  refine wp_loop_rounds 1 ?_
  rw [rounds_succ]
  go_wp2_with fail
  exact bodyPost_end (results_none rfl _ _ _) rfl ⟨rfl, rfl⟩
set_option maxHeartbeats 400000 in
theorem stable_nil (f : Value) (w : World) : Calls Tryz.prog 126 #[.slice none 0 0, .int .i64 0, f] w fun e w' => e = .returned (.tuple #[]) ∧ w = w' := by
  go_enter Tryz.func126, Tryz.ntmps126
  go_wp2_with fail
  refine wp_loop_rounds 1 ?_
  rw [rounds_succ]
  go_wp2_with fail
  refine (insertion_nil f _).mono ?_
  rintro e w1 ⟨rfl, rfl⟩
  go_wp2_with fail
  refine wp_loop_rounds 1 ?_
  rw [rounds_succ]
  go_wp2_with fail
  exact bodyPost_end (results_none rfl _ _ _) rfl ⟨rfl, rfl⟩
set_option maxHeartbeats 400000 in
theorem sortStable_nil (f : Value) (w : World) : Calls Tryz.prog 24 #[.slice none 0 0, f] w fun e w' => e = .returned (.tuple #[]) ∧ w = w' := by
  go_enter Tryz.func24, Tryz.ntmps24
  go_wp2_with fail
  refine (stable_nil f _).mono ?_
  rintro e w1 ⟨rfl, rfl⟩
  go_wp2_with fail
  exact bodyPost_end (results_none rfl _ _ _) rfl ⟨rfl, rfl⟩

/-- what Order hands back -/
def OrdOut (l : List Att) (w : World) (e : Ending) (w' : World) : Prop :=
  Below w.heap.size w w' ∧ ((checkedV l ≠ 0 ∧ e = .returned (.tuple #[.slice none 0 0, .int .i64 (checkedV l)])) ∨
    (checkedV l = 0 ∧ ∃ A cap, e = .returned (.tuple #[.slice A (orderV l).length cap, .int .i64 0]) ∧ IntsAt w' A (orderV l)))
/-- the same, and that the row is new -/
def OrdOwn (l : List Att) (w : World) (e : Ending) (w' : World) : Prop :=
  Below w.heap.size w w' ∧ ((checkedV l ≠ 0 ∧ e = .returned (.tuple #[.slice none 0 0, .int .i64 (checkedV l)])) ∨
    (checkedV l = 0 ∧ ∃ A cap, e = .returned (.tuple #[.slice A (orderV l).length cap, .int .i64 0]) ∧ IntsAt w' A (orderV l) ∧ w'.ownsRow (w.heap.size + 1) 3 1 (.slice A (orderV l).length cap) (orderV l).length ((orderV l).map (Value.int .i64))))
theorem OrdOwn.out {l : List Att} {w w' : World} {e : Ending} (h : OrdOwn l w e w') : OrdOut l w e w' :=
  ⟨h.1, h.2.imp id (fun ⟨h1, A, cap, h2, h3, _⟩ => ⟨h1, A, cap, h2, h3⟩)⟩

theorem checked_kinds (l : List Att) (h : checkedV l ≠ 0) : checkedV l = 3 ∨ checkedV l = 15 := by
  unfold checkedV at *
  split
  · exact Or.inl rfl
  · rename_i h2
    rw [if_neg h2] at h
    split
    · rename_i h3; rw [if_pos h3] at h; exact absurd rfl h
    · exact Or.inr rfl
theorem info_int : (Tryz.prog.info? 3).map (fun i => (i.zero, i.size, i.bytes)) = some (some (.int .i64 0), 1, 8) := by kernel_rfl

set_option maxHeartbeats 2000000 in
set_option maxRecDepth 100000 in
theorem order_own (A : Option Addr) (c : Nat) (l : List Att) (hn : l.length ≤ 1048576) (hO : ∀ x ∈ l, x.Ok) (w : World) (ha : AttsAt w w.heap.size A l) :
    Calls Tryz.prog 7 #[.slice A l.length c] w (OrdOwn l w) := by
  have HC := Lib.hid (fun w1 (h : Below w.heap.size w w1) => checked_any A c l (by omega) hO w1 (ha.keep h h.size))
  have HR := Lib.hid (fun w1 (h : Below w.heap.size w w1) => (ha.keep h (Nat.le_refl _)).row)
  clear ha hO
  obtain ⟨i0, hi0, hz0, hz1, hz2⟩ := info_parts info_int
  by_cases hck : checkedV l = 0
  · have HK := Lib.hid hck
    go_enter Tryz.func7, Tryz.ntmps7
    go_wp2_with fail
    refine (HC.out _ ((Below.refl _ _).alloc (Nat.le_refl _) _)).mono ?_
    rintro e w1 ⟨rfl, hb1⟩
    rw [HK.out]
    have HB1 : Hid (Below w.heap.size w w1) := Lib.hid (((Below.refl _ _).alloc (Nat.le_refl _) _).trans (hb1.mono (by simp)))
    have c1 : w1.cell? ⟨w.heap.size, 0, none⟩ = some (.slice A l.length c) := by
      rw [hb1.cell (p := ⟨w.heap.size, 0, none⟩) (by simp)]; simp
    have hs1 : w.heap.size + 1 ≤ w1.heap.size := by have := hb1.size; simpa using this
    clear hb1
    have C1 := Lib.hid (fun W (h : Below (w.heap.size + 1) w1 W) => (h.cell (p := ⟨w.heap.size, 0, none⟩) (Nat.lt_succ_self _)).trans c1)
    have HW1 := Lib.hid (fun W (h : Below (w.heap.size + 1) w1 W) => HB1.out.trans (h.mono (Nat.le_succ _)))
    go_wp2_with fail
    go_loopw [5, 15] (fun v i wr => ∃ k : Nat, i = .int .i64 k ∧ k ≤ l.length ∧ Hid (wr.ownsRow (w.heap.size + 1) 3 1 v (committed 0 (l.take k)).length ((committed 0 (l.take k)).map (Value.int .i64))) ∧ Hid (Below (w.heap.size + 1) w1 wr) ∧ Hid (committed 0 (l.take k) = [] → v = .slice none 0 0)) (fun _ i _ => l.length - (intOf i).toNat)
    case atStart => exact ⟨0, rfl, Nat.zero_le _, Lib.hid (World.ownsRow_nil _ _ _ _), Lib.hid (Below.refl _ _), Lib.hid (fun _ => rfl)⟩
    case round =>
      clear c1
      obtain ⟨k, rfl, hk, hown, hW, hnil⟩ := hrel
      have hsr : w.heap.size + 1 ≤ wr.heap.size := Nat.le_trans hs1 hW.out.size
      by_cases hlt : k < l.length
      · obtain ⟨b, off, rfl, hbl, hc⟩ := HR.out _ (HW1.out _ hW.out) (by rintro rfl; simp at hlt)
        have hx := List.getElem?_eq_getElem hlt
        obtain ⟨d0, d1, d2, d3, d4, d5, d6, d7⟩ := hc k _ hx
        have h4 := Lib.hid (committed_take hlt)
        have HLEN := Lib.hid (committed_len (l.take k) 0)
        have HKK : Hid ((l.take k).length ≤ 1048576) := Lib.hid (by rw [List.length_take]; omega)
        clear hc hx
        generalize l[k] = x at *
        generalize hev : x.evs.length = m at *
        clear hev
        by_cases hkd : x.kd = 1
        · have t1 : (x.kd == 1) = true := by simp; omega
          have h5 : Hid (committed 0 (l.take (k + 1)) = committed 0 (l.take k) ++ [(k : Int)]) := Lib.hid (by rw [h4.out, if_pos hkd])
          clear h4
          go_wp2_with (at_builtin; refine wpList_append_own _ rfl _ _ 26 rfl (w.heap.size + 1) 3 i0 (.int .i64 0) 1 8 Tryz.underlying26 hi0 hz0 hz1 hz2 rfl (by decide) _ _ _ rfl ((hown.out.alloc _).alloc _) ⟨wr.heap.size + 1, 0, none⟩ 1 1 [.int .i64 k] rfl rfl ?c1 ?c2 ?c3 ?c4 ?c5 ?_)
          case c1 =>
            intro j u hj
            match j, hj with
            | 0, hj => simp at hj; subst hj; simp [Addr.add]
          case c2 => intro u hu; simp at hu; subst hu; rfl
          case c3 => have := HLEN.out; have := HKK.out; unfold maxLen; omega
          case c4 => have := HLEN.out; have := HKK.out; omega
          case c5 => simp; omega
          intro v' w3 hown' hgrow hnil'
          have hB3 : Hid (Below (w.heap.size + 1) w1 w3) := Lib.hid (((hW.out.alloc hsr _).alloc (by simp; omega) _).grown hgrow (by simp; omega) (fun kk h => (hown.out.lt kk h).1))
          have hown3 : Hid (w3.ownsRow (w.heap.size + 1) 3 1 v' (committed 0 (l.take (k + 1))).length ((committed 0 (l.take (k + 1))).map (Value.int .i64))) := Lib.hid (by
            rw [h5.out, List.length_append, List.map_append]; exact hown')
          clear hown' hgrow hnil' hown hW
          go_wp2_with fail
          go_roundw
          case rel => exact ⟨k + 1, by go_num, by omega, hown3, hB3, Lib.hid (fun h => by rw [h5.out] at h; simp at h)⟩
          case measure => simp [intOf]; omega
        · have t1 : (x.kd == 1) = false := by simp; omega
          have t2 : decide (x.kd = 1) = false := by simp; omega
          have h5 : Hid (committed 0 (l.take (k + 1)) = committed 0 (l.take k)) := Lib.hid (by rw [h4.out, if_neg hkd, List.append_nil])
          clear h4
          have hB3 := Lib.hid (fun o => hW.out.alloc hsr o)
          have hown3 := Lib.hid (fun o => hown.out.alloc o)
          go_wp2_with fail
          go_roundw
          case rel => exact ⟨k + 1, by go_num, by omega, Lib.hid (by rw [h5.out]; exact hown3.out _), Lib.hid (hB3.out _), Lib.hid (fun h => by rw [h5.out] at h; exact hnil.out h)⟩
          case measure => simp [intOf]; omega
      · have hkl : l.take k = l := List.take_of_length_le (by omega)
        rw [hkl] at hown hnil
        have hkk : k = l.length := by omega
        subst hkk
        clear hkl hlt hk
        obtain ⟨hlen, ⟨rfl, hz⟩ | ⟨g, cap, cur, rfl, hg, hheap, hr1, hr2, hr3, hr4⟩⟩ := id hown.out
        · have hcs : Hid (committed 0 l = []) := Lib.hid (List.length_eq_zero_iff.1 hz)
          have ho : Hid (orderV l = []) := Lib.hid (by unfold orderV; rw [hcs.out]; rfl)
          clear hlen hz hown hnil
          go_wp2_with fail
          refine (sortStable_nil _ _).mono ?_
          rintro e w2 ⟨rfl, rfl⟩
          go_wp2_with fail
          refine bodyPost_ret (v := .tuple #[.slice none 0 0, .int .i64 0]) (by simp [results, Tryz.results7, go_sem]) rfl ?_
          exact ⟨HW1.out _ hW.out, Or.inr ⟨HK.out, none, 0, by rw [ho.out]; rfl, fun h => absurd ho.out h, by rw [ho.out]; exact World.ownsRow_nil _ _ _ _⟩⟩
        · have hne : Hid (committed 0 l ≠ []) := Lib.hid (fun h => by have := hnil.out h; cases this)
          obtain ⟨N, hN⟩ : ∃ N, l.length = N + 1 := by
            cases hl : l with
            | nil => rw [hl] at hne; exact absurd rfl hne.out
            | cons x r => exact ⟨r.length, rfl⟩
          obtain ⟨b, off, rfl, hbl, hc⟩ := HR.out _ (HW1.out _ hW.out) (by rintro rfl; simp at hN)
          have hgl : g < wr.heap.size := (hown.out.lt g rfl).2
          have hcl := committed_len l 0
          have hb : ∀ i ∈ committed 0 l, 0 ≤ i ∧ i < (N : Int) + 1 := fun i hi => by
            have := (committed_lt l 0).2 i hi
            omega
          have HC2 := Lib.hid (cmpO_of (n := (committed 0 l).length) (g := g) hN (C1.out _ hW.out) (by omega) (Nat.lt_of_lt_of_le hbl (HW1.out _ hW.out).size) (by omega) hc)
          have HS : Hid (RowW N wr g 0 (dOf N (committed 0 l)) wr) := Lib.hid (RowW.start hgl
            (fun j hj => by
              rw [dOf_size] at hj
              have hbj := hb _ (List.getElem_mem hj)
              rw [Nat.zero_add, hown.out.cellAt j (by omega), List.getElem?_map, List.getElem?_eq_getElem hj]
              exact congrArg some (congrArg (Value.int .i64) (dOf_get hj hbj.1 hbj.2).symm))
            (fun j hj => by rw [Nat.zero_add]; exact hown.out.frozenAt j))
          have HD : Hid (∀ i j, i < j → j < (committed 0 l).length → numF N (dOf N (committed 0 l))[i]! < numF N (dOf N (committed 0 l))[j]!) := Lib.hid (fun i j hij hj => by
            have hi : i < (committed 0 l).length := by omega
            have h1 := hb _ (List.getElem_mem hi)
            have h2 := hb _ (List.getElem_mem hj)
            rw [dOf_get hi h1.1 h1.2, dOf_get hj h2.1 h2.2]
            exact List.pairwise_iff_getElem.1 (committed_lt l 0).1 i j hi hj hij)
          have HN := Lib.hid hN
          have HG := Lib.hid hg
          have HOWN := Lib.hid hown.out
          clear hlen hheap hr1 hr2 hr3 hr4 hown hnil hc hb hN hg
          go_wp2_with fail
          refine (sortStable_any N w.heap.size (cfL l N) (cfL_swo l N) g 0 cap _ wr HC2.out (by omega) _ _ (dOf_size _ _) HS.out HD.out).mono ?_
          rintro e w2 ⟨rfl, d1, hm, hW2⟩
          have hm := Lib.hid (order_sorted HN.out hm)
          have hW2 := Lib.hid hW2
          have hlen : Hid ((committed 0 l).length = (orderV l).length) := Lib.hid (sortB_perm (stB id (ltN l)) (committed 0 l)).length_eq.symm
          clear HC2 HS HD
          go_wp2_with fail
          refine bodyPost_ret (v := .tuple #[.slice (some ⟨g, 0, none⟩) (committed 0 l).length cap, .int .i64 0]) (by simp [results, Tryz.results7, go_sem]) rfl ?_
          refine ⟨(HW1.out _ hW.out).trans ?_, Or.inr ⟨HK.out, some ⟨g, 0, none⟩, cap, by rw [hlen.out], intsAt_row hW2.out hm.out.1, by
            have := hW2.out.own HOWN.out (by rw [hm.out.2]; exact hlen.out.symm) _ hm.out.1
            rwa [hlen.out] at this⟩⟩
          have h := hW2.out
          have hgg := HG.out
          exact ⟨h.os, h.tape, h.output, h.size, fun k hk => h.block k (by omega) (by omega)⟩
  · have HK := Lib.hid hck
    have hcv := Lib.hid (checked_kinds l hck)
    have HRES : Hid (∀ w', Below w.heap.size w w' → OrdOwn l w (.returned (.tuple #[.slice none 0 0, .int .i64 (checkedV l)])) w') := Lib.hid (fun w' h => ⟨h, Or.inl ⟨hck, rfl⟩⟩)
    have t1 : (checkedV l == 0) = false := by simpa using hck
    generalize checkedV l = cv at *
    go_enter Tryz.func7, Tryz.ntmps7
    go_wp2_with fail
    refine (HC.out _ ((Below.refl _ _).alloc (Nat.le_refl _) _)).mono ?_
    rintro e w1 ⟨rfl, hb1⟩
    have HB1 : Hid (Below w.heap.size w w1) := Lib.hid (((Below.refl _ _).alloc (Nat.le_refl _) _).trans (hb1.mono (by simp)))
    clear hb1
    go_wp2_with fail
    refine bodyPost_ret (v := .tuple #[.slice none 0 0, .int .i64 cv]) (by simp [results, Tryz.results7, go_sem]) rfl ?_
    exact HRES.out _ HB1.out
theorem order_any (A : Option Addr) (c : Nat) (l : List Att) (hn : l.length ≤ 1048576) (hO : ∀ x ∈ l, x.Ok) (w : World) (ha : AttsAt w w.heap.size A l) :
    Calls Tryz.prog 7 #[.slice A l.length c] w (OrdOut l w) :=
  (order_own A c l hn hO w ha).mono fun _ _ h => h.out
end Go.Proofs.YtjaegddnikkibaaGreatDoor
