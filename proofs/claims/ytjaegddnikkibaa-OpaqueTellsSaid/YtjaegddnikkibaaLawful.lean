/-
  opaque's makers, lawful walked.
-/
import Derived.Test.YtjaegddnikkibaaMade
set_option linter.unusedVariables false
set_option linter.unusedSimpArgs false
namespace Go.Proofs.Ytjaegddnikkibaa
open Go.RowKit Go.Sort Go.Maps

theorem ints_of_own {w : World} {base : Nat} {e : TypeId} {v : Value} {zs : List Int} (h : w.ownsInts base e .i64 v zs) : ∃ B cap, v = .slice B zs.length cap ∧ IntsAt w B zs := by
  rcases h.1.2 with ⟨rfl, h0⟩ | ⟨g, cap, cur, rfl, -, hb, -⟩
  · have : zs = [] := List.eq_nil_of_length_eq_zero h0
    subst this
    exact ⟨none, 0, rfl, fun h => absurd rfl h⟩
  · refine ⟨some ⟨g, 0, none⟩, cap, rfl, fun _ => ⟨g, 0, rfl, (Array.getElem?_eq_some_iff.1 hb).1, fun k i hk => ?_⟩⟩
    have hlt : k < zs.length := (List.getElem?_eq_some_iff.1 hk).1
    rw [Nat.zero_add, h.1.cellAt k (by omega), List.getElem?_map, hk]; rfl
theorem lawGo_step (l : List Att) (y : Att) (s : Bool) {zs : List Int} {k : Nat} (h : k < zs.length) :
    lawGo l y s (zs.drop k) = if (attN l zs[k]).th = y.th then lawGo l y s (zs.drop (k + 1)) else if (attN l zs[k]).kd = 1 ∧ (attN l zs[k]).pl ≤ y.ck then true else lawGo l y true (zs.drop (k + 1)) := by
  rw [List.drop_eq_getElem_cons h]; rfl

set_option maxHeartbeats 2000000 in
set_option maxRecDepth 100000 in
theorem lawful_any (m n c : Nat) (A : Option Addr) (l : List Att) (th kd bg en ck pl : Int) (wt : Bool) (dA : Option Addr) (dc : Nat) (evs : List Ev) (at_ : Int) (hat : i64ok at_) (hn : l.length ≤ 1048576) (hN : n ≤ 100000000)
    (w : World) (ha : AttsAt w w.heap.size A l) (hG : GroupsAt Try.prog 2 3 w m n (madeV l)) :
    Calls Try.prog 47 #[.map (some m), .slice A l.length c, .agg #[.int .i64 th, .int .u8 kd, .int .i64 bg, .int .i64 en, .int .i64 ck, .int .i64 pl, .bool wt, .slice dA evs.length dc], .int .i64 at_] w fun e w' =>
      e = .returned (.bool (lawfulV l ⟨th, kd, bg, en, ck, pl, wt, dA, dc, evs⟩ at_)) ∧ Below w.heap.size w w' := by
  have HV := Lib.hid (lawful_made l ⟨th, kd, bg, en, ck, pl, wt, dA, dc, evs⟩ at_)
  have HRG := Lib.hid (fun i (h : i ∈ madeV l at_) => madeV_range h)
  obtain ⟨X, hX⟩ : ∃ X, w.heap.size = X := ⟨_, rfl⟩
  obtain ⟨w0, hw0⟩ : ∃ w0, w.alloc (.cells #[.int .i64 th, .int .u8 kd, .int .i64 bg, .int .i64 en, .int .i64 ck, .int .i64 pl, .bool wt, .slice dA evs.length dc] 35 (0, 0)) = w0 := ⟨_, rfl⟩
  have hw00 : Below w.heap.size w w0 := by rw [← hw0]; exact (Below.refl _ _).alloc (Nat.le_refl _) _
  have HW0 := Lib.hid hw00
  have hG0 : GroupsAt Try.prog 2 3 w0 m n (madeV l) := hG.keep hw00
  obtain ⟨v, hsame, hown, hlen, -⟩ := hG0.look (t := 75) (E := 28) (by kernel_rfl) (by kernel_rfl) zeroInts (by unfold maxLen; omega) (wf64 hat)
  have hlk := hsame w0 rfl
  obtain ⟨B, cap, rfl, hI⟩ := ints_of_own hown
  have HI := Lib.hid (fun W (h : Below w0.heap.size w0 W) => hI.keep h)
  have HA := Lib.hid (fun W (h : Below w.heap.size w W) => ha.keep h (Nat.le_refl _))
  have lX : X < w0.heap.size := by rw [← hw0, ← hX]; simp
  have d0 : w0.cell? ⟨X, 0, none⟩ = some (.int .i64 th) := by rw [← hw0, ← hX]; simp
  have d4 : w0.cell? ⟨X, 4, none⟩ = some (.int .i64 ck) := by rw [← hw0, ← hX]; simp
  have D := Lib.hid (fun W (h : Below w0.heap.size w0 W) => (⟨(h.cell (p := ⟨X, 0, none⟩) lX).trans d0, (h.cell (p := ⟨X, 4, none⟩) lX).trans d4⟩ : W.cell? ⟨X, 0, none⟩ = some (.int .i64 th) ∧ W.cell? ⟨X, 4, none⟩ = some (.int .i64 ck)))
  clear ha hG hG0 hown hI hsame d0 d4 lX hw00
  generalize lawfulV l ⟨th, kd, bg, en, ck, pl, wt, dA, dc, evs⟩ at_ = res at *
  generalize madeV l at_ = zs at *
  go_enter Try.func47, Try.ntmps47
  go_wp2_with fail
  clear hlk hw0 hX
  go_loopw [9, 17] (fun s i wr => ∃ (k : Nat) (sb : Bool), i = .int .i64 k ∧ s = .bool sb ∧ k ≤ zs.length ∧ Hid (lawGo l ⟨th, kd, bg, en, ck, pl, wt, dA, dc, evs⟩ sb (zs.drop k) = res) ∧ Hid (Below w0.heap.size w0 wr)) (fun _ i _ => zs.length - (intOf i).toNat)
  case atStart => exact ⟨0, false, rfl, rfl, Nat.zero_le _, HV, Lib.hid (Below.refl _ _)⟩
  case round =>
    clear HV
    obtain ⟨k, sb, rfl, rfl, hk, hV, hW⟩ := hrel
    obtain ⟨d0, d4⟩ := D.out _ hW.out
    have HWW : Hid (Below w.heap.size w wr) := Lib.hid (HW0.out.trans (hW.out.mono HW0.out.size))
    by_cases hlt : k < zs.length
    · obtain ⟨g, goff, rfl, hgl, hgc⟩ := HI.out _ hW.out (by rintro rfl; simp at hlt)
      obtain ⟨i, hi, hil⟩ := HRG.out _ (List.getElem_mem hlt)
      have e1 := hgc k _ (List.getElem?_eq_getElem hlt)
      rw [hi] at e1
      obtain ⟨b, off, rfl, hbl, hc⟩ := (HA.out _ HWW.out).row (by rintro rfl; simp at hil)
      obtain ⟨c0, c1, c2, c3, c4, c5, c6, c7⟩ := hc i _ (List.getElem?_eq_getElem hil)
      have hst : Hid ((if l[i].th = th then lawGo l ⟨th, kd, bg, en, ck, pl, wt, dA, dc, evs⟩ sb (zs.drop (k + 1)) else if l[i].kd = 1 ∧ l[i].pl ≤ ck then true else lawGo l ⟨th, kd, bg, en, ck, pl, wt, dA, dc, evs⟩ true (zs.drop (k + 1))) = res) := Lib.hid (by
        rw [← hV.out, lawGo_step l _ sb hlt, hi, attN_some (List.getElem?_eq_getElem hil)])
      have p1 : (i : Int) < (l.length : Int) := by omega
      have p3 : (0 : Int) ≤ (i : Int) := Int.natCast_nonneg _
      clear hgc hi hc hV
      generalize l[i] = x at *
      obtain ⟨xth, xkd, xbg, xen, xck, xpl, xwt, xdA, xdc, xevs⟩ := x
      dsimp only at *
      have hWE := Lib.hid (fun o => hW.out.alloc hW.out.size o)
      have HWE := Lib.hid (fun o => HWW.out.alloc HWW.out.size o)
      have lX := World.block_lt_of_cell? _ _ d0
      have q0 := fun o => ((Below.refl wr.heap.size wr).alloc (Nat.le_refl _) o).cell (p := ⟨X, 0, none⟩) lX
      have q4 := fun o => ((Below.refl wr.heap.size wr).alloc (Nat.le_refl _) o).cell (p := ⟨X, 4, none⟩) lX
      clear hW HWW
      by_cases h1 : xth = th
      · subst h1
        have hst2 : Hid (lawGo l ⟨xth, kd, bg, en, ck, pl, wt, dA, dc, evs⟩ sb (zs.drop (k + 1)) = res) := Lib.hid (by rw [← hst.out, if_pos rfl])
        clear hst
        go_wp2_with fail
        go_roundw
        case rel => exact ⟨k + 1, sb, by go_num, rfl, by omega, hst2, Lib.hid (hWE.out _)⟩
        case measure => simp [intOf]; omega
      · have t1 : (xth == th) = false := by simpa using h1
        have t2 : decide (xth = th) = false := by simpa using h1
        by_cases h2 : xkd = 1
        · subst h2
          by_cases h3 : xpl ≤ ck
          · have t3 : decide (xpl ≤ ck) = true := by simpa using h3
            have F : Hid (true = res) := Lib.hid (by rw [← hst.out, if_neg h1, if_pos ⟨rfl, h3⟩])
            clear hst h1 h3
            go_wp2_with fail
            go_ret
            exact ⟨ret_bool F.out, HWE.out _⟩
          · have t3 : decide (xpl ≤ ck) = false := by simpa using h3
            have hst2 : Hid (lawGo l ⟨th, kd, bg, en, ck, pl, wt, dA, dc, evs⟩ true (zs.drop (k + 1)) = res) := Lib.hid (by rw [← hst.out, if_neg h1, if_neg (fun h => h3 h.2)])
            clear hst h1 h3
            go_wp2_with fail
            go_roundw
            case rel => exact ⟨k + 1, true, by go_num, rfl, by omega, hst2, Lib.hid (hWE.out _)⟩
            case measure => simp [intOf]; omega
        · have t3 : (xkd == 1) = false := by simpa using h2
          have t4 : decide (xkd = 1) = false := by simpa using h2
          have hst2 : Hid (lawGo l ⟨th, kd, bg, en, ck, pl, wt, dA, dc, evs⟩ true (zs.drop (k + 1)) = res) := Lib.hid (by rw [← hst.out, if_neg h1, if_neg (fun h => h2 h.1)])
          clear hst h1 h2
          go_wp2_with fail
          go_roundw
          case rel => exact ⟨k + 1, true, by go_num, rfl, by omega, hst2, Lib.hid (hWE.out _)⟩
          case measure => simp [intOf]; omega
    · have F : Hid ((!sb) = res) := Lib.hid (by
        have h := hV.out
        rw [List.drop_eq_nil_of_le (by omega)] at h
        exact h)
      clear hV
      go_wp2_with fail
      go_ret
      exact ⟨ret_bool F.out, HWW.out⟩
end Go.Proofs.Ytjaegddnikkibaa
