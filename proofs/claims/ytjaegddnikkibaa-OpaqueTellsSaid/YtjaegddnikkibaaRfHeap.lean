/-
  The reference's Heap: find and Get, walked.
-/
import Derived.Test.YtjaegddnikkibaaRfSorted
import Derived.Test.YtjaegddnikkibaaWordsPlain
set_option linter.unusedVariables false
set_option linter.unusedSimpArgs false
namespace Go.Proofs.Ytjaegddnikkibaa
open Go.RowKit Go.Sort Go.Maps

def findV (x : Int) : Nat → List (Int × Int) → Int
  | _, [] => -1
  | k, c :: r => if c.1 = x then (k : Int) else findV x (k + 1) r
def getV (cs : List (Int × Int)) (x : Int) : Int := match cs with
  | [] => 0
  | c :: r => if c.1 = x then c.2 else getV r x
theorem findV_step {x : Int} {cs : List (Int × Int)} {k : Nat} (h : k < cs.length) : findV x k (cs.drop k) = if cs[k].1 = x then (k : Int) else findV x (k + 1) (cs.drop (k + 1)) := by
  rw [List.drop_eq_getElem_cons h]; rfl
theorem findV_cases (x : Int) : ∀ (cs : List (Int × Int)) (k : Nat), (findV x k cs = -1 ∧ getV cs x = 0 ∧ ∀ v, (x, v) ∉ cs) ∨ ∃ j, ∃ hj : j < cs.length, findV x k cs = ((k + j : Nat) : Int) ∧ cs[j].1 = x ∧ getV cs x = cs[j].2
  | [], k => Or.inl ⟨rfl, rfl, fun v h => by simp at h⟩
  | c :: r, k => by
    unfold findV getV
    by_cases h : c.1 = x
    · rw [if_pos h, if_pos h]
      exact Or.inr ⟨0, by simp, by simp, h, rfl⟩
    · rw [if_neg h, if_neg h]
      rcases findV_cases x r (k + 1) with ⟨h1, h2, h3⟩ | ⟨j, hj, h1, h2, h3⟩
      · refine Or.inl ⟨h1, h2, fun v hv => ?_⟩
        rcases List.mem_cons.1 hv with e | hv
        · exact h (by rw [← e])
        · exact h3 v hv
      · exact Or.inr ⟨j + 1, by simpa using hj, by rw [h1]; congr 1; omega, by simpa using h2, by simpa using h3⟩

set_option maxHeartbeats 1000000 in
set_option maxRecDepth 100000 in
theorem rfFind_any (h : Nat) (A : Option Addr) (cap : Nat) (cs : List (Int × Int)) (x : Int) (hn : cs.length ≤ 68157440) (w : World) (hh : w.cell? ⟨h, 0, none⟩ = some (.slice A cs.length cap)) (hc : CellsAt w A cs) :
    Calls Try.prog 80 #[.pointer (some ⟨h, 0, none⟩), .int .i64 x] w fun e w' => e = .returned (.int .i64 (findV x 0 cs)) ∧ Below w.heap.size w w' := by
  have hl := World.block_lt_of_cell? _ _ hh
  have HH := Lib.hid (fun W (hb : Below w.heap.size w W) => (hb.cell (p := ⟨h, 0, none⟩) hl).trans hh)
  have HC := Lib.hid (fun W (hb : Below w.heap.size w W) => hc.keep hb)
  obtain ⟨R, hR⟩ : ∃ R, findV x 0 cs = R := ⟨_, rfl⟩
  rw [hR]
  have HR0 : Hid (R = findV x 0 (cs.drop 0)) := Lib.hid hR.symm
  clear hh hc hl hR
  go_enter Try.func80, Try.ntmps80
  go_wp2_with fail
  go_loopw [5] (fun i wr => ∃ k : Nat, i = .int .i64 k ∧ k ≤ cs.length ∧ Hid (R = findV x k (cs.drop k)) ∧ Hid (Below w.heap.size w wr)) (fun i _ => cs.length - (intOf i).toNat)
  case atStart => exact ⟨0, rfl, Nat.zero_le _, HR0, Lib.hid (Below.refl _ _)⟩
  case round =>
    clear HR0
    obtain ⟨k, rfl, hk, hV, hW⟩ := hrel
    have a0 := HH.out _ hW.out
    by_cases hlt : k < cs.length
    · obtain ⟨b, off, rfl, hbl, hcc⟩ := HC.out _ hW.out (by rintro rfl; simp at hlt)
      obtain ⟨e0, e1⟩ := hcc k _ (List.getElem?_eq_getElem hlt)
      have hst := Lib.hid (findV_step (x := x) hlt)
      have p1 : (k : Int) < (cs.length : Int) := by omega
      have p2 : (0 : Int) ≤ (k : Int) := Int.natCast_nonneg _
      have hE := Lib.hid (fun n => below_drewN hW.out n)
      clear hcc
      generalize cs[k] = cc at *
      obtain ⟨cx, cv⟩ := cc
      dsimp only at *
      by_cases hx : cx = x
      · have t1 : decide (cx = x) = true := by simpa using hx
        have t2 : (cx == x) = true := by simpa using hx
        have hF : Hid (R = (k : Int)) := Lib.hid (by rw [hV.out, hst.out, if_pos hx])
        clear hV hst hx
        go_wp2_with fail
        go_ret
        exact ⟨by rw [hF.out]; first | done | rfl, hW.out⟩
      · have t1 : decide (cx = x) = false := by simpa using hx
        have t2 : (cx == x) = false := by simpa using hx
        have hF : Hid (R = findV x (k + 1) (cs.drop (k + 1))) := Lib.hid (by rw [hV.out, hst.out, if_neg hx])
        clear hV hst hx
        go_wp2_with fail
        go_roundw
        case rel => exact ⟨k + 1, by go_num, by omega, hF, hW⟩
        case measure => simp [intOf]; omega
    · have hF : Hid (R = -1) := Lib.hid (by rw [hV.out, List.drop_eq_nil_of_le (by omega)]; rfl)
      clear hV
      go_wp2_with fail
      go_ret
      exact ⟨by rw [hF.out]; first | done | rfl, hW.out⟩

set_option maxHeartbeats 1000000 in
set_option maxRecDepth 100000 in
theorem rfGet_any (h : Nat) (A : Option Addr) (cap : Nat) (cs : List (Int × Int)) (x : Int) (hn : cs.length ≤ 68157440) (w : World) (hh : w.cell? ⟨h, 0, none⟩ = some (.slice A cs.length cap)) (hc : CellsAt w A cs) :
    Calls Try.prog 67 #[.pointer (some ⟨h, 0, none⟩), .int .i64 x] w fun e w' => e = .returned (.int .i64 (getV cs x)) ∧ Below w.heap.size w w' := by
  have hl := World.block_lt_of_cell? _ _ hh
  have HH := Lib.hid (fun W (hb : Below w.heap.size w W) => (hb.cell (p := ⟨h, 0, none⟩) hl).trans hh)
  have HC := Lib.hid (fun W (hb : Below w.heap.size w W) => hc.keep hb)
  have HF := Lib.hid (rfFind_any h A cap cs x hn w hh hc)
  clear hh hc hl
  rcases findV_cases x cs 0 with ⟨h1, h2, -⟩ | ⟨j, hj, h1, h2, h3⟩
  · rw [h2]
    rw [h1] at HF
    clear h1 h2
    go_enter Try.func67, Try.ntmps67
    go_wp2_with fail
    refine HF.out.mono ?_
    rintro e w1 ⟨rfl, hb⟩
    have hE := Lib.hid hb
    clear hb HF
    go_wp2_with fail
    go_ret
    exact ⟨rfl, hE.out⟩
  · rw [h3]
    rw [h1, Nat.zero_add] at HF
    clear h1 h2 h3
    have p1 : (j : Int) < (cs.length : Int) := by omega
    have p2 : (0 : Int) ≤ (j : Int) := Int.natCast_nonneg _
    have t1 : decide ((j : Int) < 0) = false := by simp
    have HJ := Lib.hid (List.getElem?_eq_getElem hj)
    generalize cs[j] = cc at *
    obtain ⟨cx, cv⟩ := cc
    dsimp only
    go_enter Try.func67, Try.ntmps67
    go_wp2_with fail
    refine HF.out.mono ?_
    rintro e w1 ⟨rfl, hb⟩
    have hE := Lib.hid hb
    have a0 := HH.out _ hb
    obtain ⟨b, off, rfl, hbl, hcc⟩ := HC.out _ hb (by rintro rfl; simp at hj)
    obtain ⟨e0, e1⟩ := hcc j _ HJ.out
    dsimp only at e0 e1
    clear hb HF hcc
    go_wp2_with fail
    go_ret
    exact ⟨rfl, hE.out⟩
end Go.Proofs.Ytjaegddnikkibaa
namespace Go.Proofs.Ytjaegddnikkibaa
open Go.RowKit Go.Sort Go.Maps

def putV (x v : Int) : List (Int × Int) → List (Int × Int)
  | [] => [(x, v)]
  | c :: r => if c.1 = x then (x, v) :: r else c :: putV x v r
theorem getV_put (x v y : Int) : ∀ cs, getV (putV x v cs) y = if y = x then v else getV cs y
  | [] => by
    unfold putV getV getV
    by_cases h : y = x
    · rw [if_pos h, if_pos h.symm]
    · rw [if_neg h, if_neg (fun e => h e.symm)]
  | c :: r => by
    have ih := getV_put x v y r
    unfold putV
    by_cases hc : c.1 = x
    · rw [if_pos hc]
      show (if x = y then v else getV r y) = if y = x then v else (if c.1 = y then c.2 else getV r y)
      by_cases h : y = x
      · rw [if_pos h, if_pos h.symm]
      · rw [if_neg h, if_neg (fun e => h e.symm), if_neg (fun e => h (by rw [← e, hc]))]
    · rw [if_neg hc]
      show (if c.1 = y then c.2 else getV (putV x v r) y) = if y = x then v else (if c.1 = y then c.2 else getV r y)
      rw [ih]
      by_cases h : y = x
      · rw [if_pos h, if_pos h, if_neg (fun e => hc (by rw [e, h]))]
      · rw [if_neg h, if_neg h]
theorem putV_none {x : Int} (v : Int) : ∀ {cs : List (Int × Int)}, (∀ u, (x, u) ∉ cs) → putV x v cs = cs ++ [(x, v)]
  | [], _ => rfl
  | c :: r, h => by
    unfold putV
    rw [if_neg (fun e => h c.2 (by rw [← e]; simp)), putV_none v (fun u hu => h u (by simp [hu]))]; rfl
theorem findV_put (x v : Int) : ∀ (cs : List (Int × Int)) (k j : Nat), findV x k cs = ((k + j : Nat) : Int) → j < cs.length → putV x v cs = cs.set j (x, v)
  | [], _, _, _, hj => by simp at hj
  | c :: r, k, j, h, hj => by
    unfold findV at h
    unfold putV
    by_cases hc : c.1 = x
    · rw [if_pos hc] at h ⊢
      have : j = 0 := by omega
      subst this; rfl
    · rw [if_neg hc] at h ⊢
      cases j with
      | zero =>
        exfalso
        rcases findV_cases x r (k + 1) with ⟨h1, -, -⟩ | ⟨m, -, h1, -, -⟩ <;> rw [h1] at h <;> omega
      | succ j =>
        rw [findV_put x v r (k + 1) j (by rw [h]; congr 1; omega) (by simpa using hj)]; rfl
theorem putV_len (x v : Int) : ∀ cs, (putV x v cs).length ≤ cs.length + 1
  | [] => by simp [putV]
  | c :: r => by
    unfold putV
    split
    · simp
    · have := putV_len x v r; simp only [List.length_cons]; omega
end Go.Proofs.Ytjaegddnikkibaa
