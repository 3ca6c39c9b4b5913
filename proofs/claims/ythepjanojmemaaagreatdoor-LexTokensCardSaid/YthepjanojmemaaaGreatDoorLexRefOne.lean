/-
  The document's tokens: what begins at a place (letter, digit, sign, run, one).
-/
import Derived.Test.YthepjanojmemaaaGreatDoorLexRefWords
import Derived.Test.YthepjanojmemaaaGreatDoorLexSpec
import Derived.Test.YthepjanojmemaaaGreatDoorWordRef
import Derived.Test.YthepjanojmemaaaGreatDoorLexBlank
import Derived.Deep.QuietTactic
import Derived.BigQuiet
set_option linter.unusedVariables false
set_option linter.unusedSimpArgs false
namespace Go.Proofs.YthepjanojmemaaaGreatDoor
open Go.RowKit

set_option maxHeartbeats 400000 in
theorem rletter_any (c : UInt8) (w : World) :
    Calls Tryz.prog 100 #[.int .u8 c.toNat] w fun e w' => e = .returned (.bool (lowB c)) ∧ w = w' := by
  by_cases h1 : 97 ≤ c.toNat
  · have E := Lib.hid (show decide ((c.toNat : Int) ≤ 122) = lowB c by
      unfold lowB
      rw [decide_eq_true h1, Bool.true_and]
      exact decide_eq_decide.2 (by omega))
    go_enter Tryz.func100, Tryz.ntmps100
    go_wp2_with fail
    go_ret
    exact ⟨ret_bool E.out, rfl⟩
  · have E := Lib.hid (show false = lowB c by simp [lowB, h1])
    go_enter Tryz.func100, Tryz.ntmps100
    go_wp2_with fail
    go_ret
    exact ⟨ret_bool E.out, rfl⟩
set_option maxHeartbeats 400000 in
theorem rdigit_any (c : UInt8) (w : World) :
    Calls Tryz.prog 103 #[.int .u8 c.toNat] w fun e w' => e = .returned (.bool (digB c)) ∧ w = w' := by
  by_cases h1 : 48 ≤ c.toNat
  · have E := Lib.hid (show decide ((c.toNat : Int) ≤ 57) = digB c by
      unfold digB
      rw [decide_eq_true h1, Bool.true_and]
      exact decide_eq_decide.2 (by omega))
    go_enter Tryz.func103, Tryz.ntmps103
    go_wp2_with fail
    go_ret
    exact ⟨ret_bool E.out, rfl⟩
  · have E := Lib.hid (show false = digB c by simp [digB, h1])
    go_enter Tryz.func103, Tryz.ntmps103
    go_wp2_with fail
    go_ret
    exact ⟨ret_bool E.out, rfl⟩

theorem ret_i64 {a b : Int} (h : a = b) : Ending.returned (.int .i64 a) = .returned (.int .i64 b) := by rw [h]
/-- how many bytes of a name (or of a number) begin here -/
def runP (name : Bool) (c : UInt8) : Bool := digB c || (name && (lowB c || c == 95))
theorem runP_true : runP true = partB := by
  funext c
  unfold runP partB lowB digB
  by_cases h : c = 95
  · subst h; rfl
  · have : ¬ c.toNat = 95 := fun e => h (UInt8.toNat_inj.1 e)
    have hb : (c == 95) = false := by simpa using h
    simp [hb, this, Bool.or_comm]
theorem runP_false : runP false = digB := by
  funext c
  unfold runP
  simp

set_option maxHeartbeats 2000000 in
set_option maxRecDepth 100000 in
theorem rrun_any (l : List UInt8) (hl : l.length ≤ 140737488355328) (b : Bool) (w : World) :
    Calls Tryz.prog 101 #[.string ⟨l.toArray⟩, .bool b] w fun e w' => e = .returned (.int .i64 (l.takeWhile (runP b)).length) ∧ w = w' := by
  have CD := Lib.hid rdigit_any
  have CL := Lib.hid rletter_any
  go_enter Tryz.func101, Tryz.ntmps101
  go_wp2_with fail
  go_loop [5] (fun n => ∃ k : Nat, k ≤ l.length ∧ n = .int .i64 k ∧ Hid (k + ((l.drop k).takeWhile (runP b)).length = (l.takeWhile (runP b)).length)) (fun n => l.length - (intOf n).toNat)
  case atStart => exact ⟨0, by omega, rfl, Lib.hid (by simp)⟩
  case round =>
    obtain ⟨k, hk, rfl, hH⟩ := hrel
    by_cases hlt : k < l.length
    · have hget : ∀ h, ((⟨l.toArray⟩ : ByteArray)[k]'h) = l[k] := fun h => rfl
      have HT : Hid (runP b l[k] = true → k + 1 + ((l.drop (k + 1)).takeWhile (runP b)).length = (l.takeWhile (runP b)).length) := Lib.hid (fun h => by
        have := hH.out
        rw [List.drop_eq_getElem_cons hlt, List.takeWhile_cons_of_pos h, List.length_cons] at this
        omega)
      have HN : Hid (runP b l[k] = false → (k : Int) = ((l.takeWhile (runP b)).length : Int)) := Lib.hid (fun h => by
        have := hH.out
        rw [List.drop_eq_getElem_cons hlt, List.takeWhile_cons_of_neg (by simp [h]), List.length_nil] at this
        omega)
      have CD := Lib.hid (CD.out l[k])
      have CL := Lib.hid (CL.out l[k])
      clear hH
      cases hd : digB l[k]
      · rw [hd] at CD
        cases b
        · have F := Lib.hid (HN.out (by simp [runP, hd]))
          clear HT HN hd
          go_wp2_with fail
          refine (CD.out _).mono ?_
          rintro e w' ⟨rfl, rfl⟩
          go_wp2_with fail
          go_ret
          exact ⟨ret_i64 F.out, rfl⟩
        · cases hlo : lowB l[k]
          · rw [hlo] at CL
            by_cases h95 : l[k] = 95
            · have F := Lib.hid (HT.out (by simp [runP, h95]))
              have q : ((l[k].toNat : Int) == 95) = true := by rw [h95]; rfl
              clear HT HN hd hlo h95
              go_wp2_with fail
              refine (CD.out _).mono ?_
              rintro e w' ⟨rfl, rfl⟩
              go_wp2_with fail
              refine (CL.out _).mono ?_
              rintro e w' ⟨rfl, rfl⟩
              go_wp2_with fail
              go_round
              case rel => exact ⟨k + 1, by omega, by go_num, F⟩
              case measure => simp [intOf]; omega
            · have F := Lib.hid (HN.out (by simp [runP, hd, hlo, h95]))
              have q : ((l[k].toNat : Int) == 95) = false := u8_ne (d := 95) (by decide) h95
              clear HT HN hd hlo h95
              go_wp2_with fail
              refine (CD.out _).mono ?_
              rintro e w' ⟨rfl, rfl⟩
              go_wp2_with fail
              refine (CL.out _).mono ?_
              rintro e w' ⟨rfl, rfl⟩
              go_wp2_with fail
              go_ret
              exact ⟨ret_i64 F.out, rfl⟩
          · rw [hlo] at CL
            have F := Lib.hid (HT.out (by simp [runP, hlo]))
            clear HT HN hd hlo
            go_wp2_with fail
            refine (CD.out _).mono ?_
            rintro e w' ⟨rfl, rfl⟩
            go_wp2_with fail
            refine (CL.out _).mono ?_
            rintro e w' ⟨rfl, rfl⟩
            go_wp2_with fail
            go_round
            case rel => exact ⟨k + 1, by omega, by go_num, F⟩
            case measure => simp [intOf]; omega
      · rw [hd] at CD
        have F := Lib.hid (HT.out (by simp [runP, hd]))
        clear HT HN hd
        go_wp2_with fail
        refine (CD.out _).mono ?_
        rintro e w' ⟨rfl, rfl⟩
        go_wp2_with fail
        go_round
        case rel => exact ⟨k + 1, by omega, by go_num, F⟩
        case measure => simp [intOf]; omega
    · have F := Lib.hid (show (k : Int) = ((l.takeWhile (runP b)).length : Int) by
        have := hH.out
        rw [List.drop_of_length_le (by omega)] at this
        simp at this
        omega)
      clear hH
      go_wp2_with fail
      go_ret
      exact ⟨ret_i64 F.out, rfl⟩

/-- how many bytes the sign has that begins here -/
def signLen (c : UInt8) (r : List UInt8) : Nat := if signPairs.contains ((c :: r).take 2) = true then 2 else if signOnes.contains c = true then 1 else 0
theorem signLen_eq {l : List UInt8} {c : UInt8} {r : List UInt8} (h : l = c :: r) : signLen c r = if l.take 2 ∈ signPairs then 2 else if c ∈ signOnes then 1 else 0 := by
  subst h
  unfold signLen
  by_cases h1 : (c :: r).take 2 ∈ signPairs
  · rw [if_pos h1, if_pos (by simpa using h1)]
  · rw [if_neg h1, if_neg (by simpa using h1)]
    by_cases h2 : c ∈ signOnes
    · rw [if_pos h2, if_pos (by simpa using h2)]
    · rw [if_neg h2, if_neg (by simpa using h2)]
theorem u8_eqB (a b : UInt8) : ((a.toNat : Int) == (b.toNat : Int)) = (a == b) := by
  by_cases h : a = b
  · subst h; simp
  · rw [beq_eq_false_iff_ne.2 h, beq_eq_false_iff_ne]
    intro e
    exact h (UInt8.toNat_inj.1 (by exact_mod_cast e))

theorem sblk_cell {w : World} {X : Nat} {cs : Array Value} {T : TypeId} (h : w.heap[X]? = some (.cells cs T (0, 0))) (j : Nat) : w.cell? ⟨X, j, none⟩ = cs[j]? := cell_blk h j
theorem signRow_stay {w wr : World} {c : Array Value} {T : TypeId} {n : Nat} (h : wr.heap[w.heap.size]? = some (.cells c T (0, 0)) ∧ Below w.heap.size w wr) :
    (wr.drewN n).heap[w.heap.size]? = some (.cells c T (0, 0)) ∧ Below w.heap.size w (wr.drewN n) :=
  ⟨((below_drewN wr.heap.size wr n).block _ (Array.getElem?_eq_some_iff.1 h.1).1).trans h.1, h.2.trans (below_drewN _ wr n)⟩


set_option maxHeartbeats 4000000 in
set_option maxRecDepth 100000 in
theorem rsign_any (l : List UInt8) (hl : l.length ≤ 140737488355328) (c : UInt8) (r : List UInt8) (hlr : l = c :: r) (w : World) :
    Calls Tryz.prog 105 #[.string ⟨l.toArray⟩] w fun e w' => e = .returned (.int .i64 (signLen c r)) ∧ Below w.heap.size w w' := by
  have HS := Lib.hid (signLen_eq hlr)
  have hpos : 0 < l.length := by rw [hlr]; simp
  have hget0 : ∀ h, ((⟨l.toArray⟩ : ByteArray)[0]'h) = c := fun h => by subst hlr; rfl
  have HW0 : Hid ((w.alloc (.cells #[.string ⟨#[61, 61]⟩, .string ⟨#[33, 61]⟩, .string ⟨#[60, 61]⟩, .string ⟨#[62, 61]⟩, .string ⟨#[38, 38]⟩, .string ⟨#[124, 124]⟩] 9 (0, 0))).heap[w.heap.size]? = some (.cells #[.string ⟨#[61, 61]⟩, .string ⟨#[33, 61]⟩, .string ⟨#[60, 61]⟩, .string ⟨#[62, 61]⟩, .string ⟨#[38, 38]⟩, .string ⟨#[124, 124]⟩] 9 (0, 0)) ∧ Below w.heap.size w (w.alloc (.cells #[.string ⟨#[61, 61]⟩, .string ⟨#[33, 61]⟩, .string ⟨#[60, 61]⟩, .string ⟨#[62, 61]⟩, .string ⟨#[38, 38]⟩, .string ⟨#[124, 124]⟩] 9 (0, 0)))) := Lib.hid ⟨heap_alloc_new w _, (Below.refl _ _).alloc (Nat.le_refl _) _⟩
  by_cases h1 : 1 < l.length
  · have d1 : decide ((1 : Int) < (l.length : Int)) = true := decide_eq_true (by omega)
    have d2 : (2 : Int) ≤ (l.length : Int) := by omega
    have hx := extract_list l 0 2
    rw [show (l.drop 0).take (2 - 0) = l.take 2 from rfl] at hx
    clear hlr
    obtain ⟨two, htw⟩ : ∃ two, l.take 2 = two := ⟨_, rfl⟩
    rw [htw] at HS hx
    clear htw
    go_enter Tryz.func105, Tryz.ntmps105
    go_wp2_with fail
    go_loopw [4] (fun n wr => ∃ k : Nat, k ≤ 6 ∧ n = .int .i64 k ∧ Hid (∀ i, i < k → signPairs[i]? ≠ some two) ∧ Hid (wr.heap[w.heap.size]? = some (.cells #[.string ⟨#[61, 61]⟩, .string ⟨#[33, 61]⟩, .string ⟨#[60, 61]⟩, .string ⟨#[62, 61]⟩, .string ⟨#[38, 38]⟩, .string ⟨#[124, 124]⟩] 9 (0, 0)) ∧ Below w.heap.size w wr)) (fun n _ => 6 - (intOf n).toNat)
    case atStart => exact ⟨0, by omega, rfl, Lib.hid (fun i hi => by omega), HW0⟩
    case round =>
      obtain ⟨k, hk, rfl, hH, HW⟩ := hrel
      clear HW0
      have hk' : k = 0 ∨ k = 1 ∨ k = 2 ∨ k = 3 ∨ k = 4 ∨ k = 5 ∨ k = 6 := by omega
      clear hk
      rcases hk' with rfl | rfl | rfl | rfl | rfl | rfl | rfl
      · skip
        have c0 := sblk_cell HW.out.1 0
        simp only [List.getElem?_toArray, List.getElem?_cons_zero, List.getElem?_cons_succ] at c0
        by_cases hc : two = [61, 61]
        · have F := Lib.hid (show (2 : Int) = (signLen c r : Int) by rw [HS.out, if_pos (by rw [hc]; decide)]; rfl)
          subst hc
          go_wp2_with fail
          go_quiet (fail)
          go_wp2_with fail
          go_ret
          exact ⟨ret_i64 F.out, HW.out.2.trans (below_drewN _ _ _)⟩
        · have q : (two == [61, 61]) = false := by simpa using hc
          have F : Hid (∀ i, i < 0 + 1 → signPairs[i]? ≠ some two) := Lib.hid (fun i hi e => by
            by_cases hik : i = 0
            · subst hik; injection e with e; exact hc e.symm
            · exact hH.out i (by omega) e)
          clear hc hH
          go_wp2_with fail
          go_quiet (fail)
          go_wp2_with fail
          go_roundw
          case rel => exact ⟨0 + 1, by omega, by go_num, F, Lib.hid (signRow_stay HW.out)⟩
          case measure => simp [intOf]
      · skip
        have c0 := sblk_cell HW.out.1 1
        simp only [List.getElem?_toArray, List.getElem?_cons_zero, List.getElem?_cons_succ] at c0
        by_cases hc : two = [33, 61]
        · have F := Lib.hid (show (2 : Int) = (signLen c r : Int) by rw [HS.out, if_pos (by rw [hc]; decide)]; rfl)
          subst hc
          go_wp2_with fail
          go_quiet (fail)
          go_wp2_with fail
          go_ret
          exact ⟨ret_i64 F.out, HW.out.2.trans (below_drewN _ _ _)⟩
        · have q : (two == [33, 61]) = false := by simpa using hc
          have F : Hid (∀ i, i < 1 + 1 → signPairs[i]? ≠ some two) := Lib.hid (fun i hi e => by
            by_cases hik : i = 1
            · subst hik; injection e with e; exact hc e.symm
            · exact hH.out i (by omega) e)
          clear hc hH
          go_wp2_with fail
          go_quiet (fail)
          go_wp2_with fail
          go_roundw
          case rel => exact ⟨1 + 1, by omega, by go_num, F, Lib.hid (signRow_stay HW.out)⟩
          case measure => simp [intOf]
      · skip
        have c0 := sblk_cell HW.out.1 2
        simp only [List.getElem?_toArray, List.getElem?_cons_zero, List.getElem?_cons_succ] at c0
        by_cases hc : two = [60, 61]
        · have F := Lib.hid (show (2 : Int) = (signLen c r : Int) by rw [HS.out, if_pos (by rw [hc]; decide)]; rfl)
          subst hc
          go_wp2_with fail
          go_quiet (fail)
          go_wp2_with fail
          go_ret
          exact ⟨ret_i64 F.out, HW.out.2.trans (below_drewN _ _ _)⟩
        · have q : (two == [60, 61]) = false := by simpa using hc
          have F : Hid (∀ i, i < 2 + 1 → signPairs[i]? ≠ some two) := Lib.hid (fun i hi e => by
            by_cases hik : i = 2
            · subst hik; injection e with e; exact hc e.symm
            · exact hH.out i (by omega) e)
          clear hc hH
          go_wp2_with fail
          go_quiet (fail)
          go_wp2_with fail
          go_roundw
          case rel => exact ⟨2 + 1, by omega, by go_num, F, Lib.hid (signRow_stay HW.out)⟩
          case measure => simp [intOf]
      · skip
        have c0 := sblk_cell HW.out.1 3
        simp only [List.getElem?_toArray, List.getElem?_cons_zero, List.getElem?_cons_succ] at c0
        by_cases hc : two = [62, 61]
        · have F := Lib.hid (show (2 : Int) = (signLen c r : Int) by rw [HS.out, if_pos (by rw [hc]; decide)]; rfl)
          subst hc
          go_wp2_with fail
          go_quiet (fail)
          go_wp2_with fail
          go_ret
          exact ⟨ret_i64 F.out, HW.out.2.trans (below_drewN _ _ _)⟩
        · have q : (two == [62, 61]) = false := by simpa using hc
          have F : Hid (∀ i, i < 3 + 1 → signPairs[i]? ≠ some two) := Lib.hid (fun i hi e => by
            by_cases hik : i = 3
            · subst hik; injection e with e; exact hc e.symm
            · exact hH.out i (by omega) e)
          clear hc hH
          go_wp2_with fail
          go_quiet (fail)
          go_wp2_with fail
          go_roundw
          case rel => exact ⟨3 + 1, by omega, by go_num, F, Lib.hid (signRow_stay HW.out)⟩
          case measure => simp [intOf]
      · skip
        have c0 := sblk_cell HW.out.1 4
        simp only [List.getElem?_toArray, List.getElem?_cons_zero, List.getElem?_cons_succ] at c0
        by_cases hc : two = [38, 38]
        · have F := Lib.hid (show (2 : Int) = (signLen c r : Int) by rw [HS.out, if_pos (by rw [hc]; decide)]; rfl)
          subst hc
          go_wp2_with fail
          go_quiet (fail)
          go_wp2_with fail
          go_ret
          exact ⟨ret_i64 F.out, HW.out.2.trans (below_drewN _ _ _)⟩
        · have q : (two == [38, 38]) = false := by simpa using hc
          have F : Hid (∀ i, i < 4 + 1 → signPairs[i]? ≠ some two) := Lib.hid (fun i hi e => by
            by_cases hik : i = 4
            · subst hik; injection e with e; exact hc e.symm
            · exact hH.out i (by omega) e)
          clear hc hH
          go_wp2_with fail
          go_quiet (fail)
          go_wp2_with fail
          go_roundw
          case rel => exact ⟨4 + 1, by omega, by go_num, F, Lib.hid (signRow_stay HW.out)⟩
          case measure => simp [intOf]
      · skip
        have c0 := sblk_cell HW.out.1 5
        simp only [List.getElem?_toArray, List.getElem?_cons_zero, List.getElem?_cons_succ] at c0
        by_cases hc : two = [124, 124]
        · have F := Lib.hid (show (2 : Int) = (signLen c r : Int) by rw [HS.out, if_pos (by rw [hc]; decide)]; rfl)
          subst hc
          go_wp2_with fail
          go_quiet (fail)
          go_wp2_with fail
          go_ret
          exact ⟨ret_i64 F.out, HW.out.2.trans (below_drewN _ _ _)⟩
        · have q : (two == [124, 124]) = false := by simpa using hc
          have F : Hid (∀ i, i < 5 + 1 → signPairs[i]? ≠ some two) := Lib.hid (fun i hi e => by
            by_cases hik : i = 5
            · subst hik; injection e with e; exact hc e.symm
            · exact hH.out i (by omega) e)
          clear hc hH
          go_wp2_with fail
          go_quiet (fail)
          go_wp2_with fail
          go_roundw
          case rel => exact ⟨5 + 1, by omega, by go_num, F, Lib.hid (signRow_stay HW.out)⟩
          case measure => simp [intOf]
      · have HNP : Hid (two ∉ signPairs) := Lib.hid (fun h => by
          obtain ⟨i, hi, e⟩ := List.mem_iff_getElem.1 h
          exact hH.out i hi (by rw [List.getElem?_eq_getElem hi, e]))
        clear hH hx
        go_wp2_with fail
        go_loopw [6] (fun n wr => ∃ k : Nat, k ≤ 18 ∧ n = .int .i64 k ∧ Hid (c ∉ signOnes.take k) ∧ Hid (Below w.heap.size w wr)) (fun n _ => 18 - (intOf n).toNat)
        case atStart => exact ⟨0, by omega, rfl, Lib.hid (by simp), Lib.hid HW.out.2⟩
        case round =>
          obtain ⟨k, hk, rfl, hH, hBW⟩ := hrel
          by_cases hlt : k < 18
          · have hlt' : k < signOnes.length := hlt
            have hget : ∀ h, ((⟨#[123, 125, 40, 41, 91, 93, 46, 44, 59, 61, 60, 62, 43, 45, 42, 47, 37, 33]⟩ : ByteArray)[k]'h) = signOnes[k] := fun h => rfl
            have q0 := u8_eqB c signOnes[k]
            by_cases hc : c = signOnes[k]
            · have q : ((c.toNat : Int) == (signOnes[k].toNat : Int)) = true := by rw [q0]; simpa using hc
              have F := Lib.hid (show (1 : Int) = (signLen c r : Int) by rw [HS.out, if_neg HNP.out, if_pos (by rw [hc]; exact List.getElem_mem _)]; rfl)
              have hget : ∀ h, ((⟨#[123, 125, 40, 41, 91, 93, 46, 44, 59, 61, 60, 62, 43, 45, 42, 47, 37, 33]⟩ : ByteArray)[k]'h) = c := fun h => (hget h).trans hc.symm
              clear q0 hc hH
              go_wp2_with fail
              go_quiet (fail)
              go_wp2_with fail
              go_ret
              exact ⟨ret_i64 F.out, hBW.out.trans (below_drewN _ _ _)⟩
            · have q : ((c.toNat : Int) == (signOnes[k].toNat : Int)) = false := by rw [q0]; simpa using hc
              have F : Hid (c ∉ signOnes.take (k + 1)) := Lib.hid (by
                rw [List.take_add_one, List.getElem?_eq_getElem hlt']
                simp only [Option.toList, List.mem_append, List.mem_singleton, not_or]
                exact ⟨hH.out, hc⟩)
              clear q0 hH hc
              go_wp2_with fail
              go_quiet (fail)
              go_wp2_with fail
              go_roundw
              case rel => exact ⟨k + 1, by omega, by go_num, F, Lib.hid (hBW.out.trans (below_drewN _ _ _))⟩
              case measure => simp [intOf]; omega
          · have F := Lib.hid (show (0 : Int) = (signLen c r : Int) by
              have h := hH.out
              rw [List.take_of_length_le (show signOnes.length ≤ k by have : signOnes.length = 18 := rfl; omega)] at h
              rw [HS.out, if_neg HNP.out, if_neg h]; rfl)
            have hk' : k = 18 := by omega
            subst hk'
            clear hH
            go_wp2_with fail
            go_ret
            exact ⟨ret_i64 F.out, hBW.out⟩
  · have d1 : decide ((1 : Int) < (l.length : Int)) = false := decide_eq_false (by omega)
    have HNP : Hid (l.take 2 ∉ signPairs) := Lib.hid (fun h => by
      have hl2 : (l.take 2).length = 2 := by
        simp only [signPairs, List.mem_cons, List.not_mem_nil, or_false] at h
        rcases h with h | h | h | h | h | h <;> rw [h] <;> rfl
      rw [List.length_take] at hl2; omega)
    clear hlr
    go_enter Tryz.func105, Tryz.ntmps105
    go_wp2_with fail
    go_loopw [4] (fun n wr => n = .int .i64 0 ∧ Hid (wr.heap[w.heap.size]? = some (.cells #[.string ⟨#[61, 61]⟩, .string ⟨#[33, 61]⟩, .string ⟨#[60, 61]⟩, .string ⟨#[62, 61]⟩, .string ⟨#[38, 38]⟩, .string ⟨#[124, 124]⟩] 9 (0, 0)) ∧ Below w.heap.size w wr)) (fun _ _ => 0)
    case atStart => exact ⟨rfl, HW0⟩
    case round =>
      obtain ⟨rfl, HW⟩ := hrel
      clear HW0
      go_wp2_with fail
      go_loopw [6] (fun n wr => ∃ k : Nat, k ≤ 18 ∧ n = .int .i64 k ∧ Hid (c ∉ signOnes.take k) ∧ Hid (Below w.heap.size w wr)) (fun n _ => 18 - (intOf n).toNat)
      case atStart => exact ⟨0, by omega, rfl, Lib.hid (by simp), Lib.hid HW.out.2⟩
      case round =>
        obtain ⟨k, hk, rfl, hH, hBW⟩ := hrel
        by_cases hlt : k < 18
        · have hlt' : k < signOnes.length := hlt
          have hget : ∀ h, ((⟨#[123, 125, 40, 41, 91, 93, 46, 44, 59, 61, 60, 62, 43, 45, 42, 47, 37, 33]⟩ : ByteArray)[k]'h) = signOnes[k] := fun h => rfl
          have q0 := u8_eqB c signOnes[k]
          by_cases hc : c = signOnes[k]
          · have q : ((c.toNat : Int) == (signOnes[k].toNat : Int)) = true := by rw [q0]; simpa using hc
            have F := Lib.hid (show (1 : Int) = (signLen c r : Int) by rw [HS.out, if_neg HNP.out, if_pos (by rw [hc]; exact List.getElem_mem _)]; rfl)
            have hget : ∀ h, ((⟨#[123, 125, 40, 41, 91, 93, 46, 44, 59, 61, 60, 62, 43, 45, 42, 47, 37, 33]⟩ : ByteArray)[k]'h) = c := fun h => (hget h).trans hc.symm
            clear q0 hc hH
            go_wp2_with fail
            go_quiet (fail)
            go_wp2_with fail
            go_ret
            exact ⟨ret_i64 F.out, hBW.out.trans (below_drewN _ _ _)⟩
          · have q : ((c.toNat : Int) == (signOnes[k].toNat : Int)) = false := by rw [q0]; simpa using hc
            have F : Hid (c ∉ signOnes.take (k + 1)) := Lib.hid (by
              rw [List.take_add_one, List.getElem?_eq_getElem hlt']
              simp only [Option.toList, List.mem_append, List.mem_singleton, not_or]
              exact ⟨hH.out, hc⟩)
            clear q0 hH hc
            go_wp2_with fail
            go_quiet (fail)
            go_wp2_with fail
            go_roundw
            case rel => exact ⟨k + 1, by omega, by go_num, F, Lib.hid (hBW.out.trans (below_drewN _ _ _))⟩
            case measure => simp [intOf]; omega
        · have F := Lib.hid (show (0 : Int) = (signLen c r : Int) by
            have h := hH.out
            rw [List.take_of_length_le (show signOnes.length ≤ k by have : signOnes.length = 18 := rfl; omega)] at h
            rw [HS.out, if_neg HNP.out, if_neg h]; rfl)
          have hk' : k = 18 := by omega
          subst hk'
          clear hH
          go_wp2_with fail
          go_ret
          exact ⟨ret_i64 F.out, hBW.out⟩

/-- what 'one' answers -/
def OneOk (l : List UInt8) (kd : Int) (t : List UInt8) (n : Int) : Prop := match tokAt l with | none => t = [] | some x => x = (kd, t, n)
theorem takeWhile_take (p : UInt8 → Bool) (l : List UInt8) : l.take (l.takeWhile p).length = l.takeWhile p := (List.prefix_iff_eq_take.1 (List.takeWhile_prefix p)).symm
theorem word_len {t : List UInt8} (h : wordB t = true) : t.length ≤ 16 := by
  have h : t ∈ wordList := by simpa [wordB] using h
  simp only [wordList, List.mem_cons, List.not_mem_nil, or_false] at h
  rcases h with rfl | rfl | rfl | rfl | rfl | rfl | rfl | rfl | rfl | rfl | rfl | rfl | rfl | rfl <;> decide
theorem digits_le (l : List UInt8) (M : Nat) (hM : 9 ≤ M) : (digitsV l M).1 ≤ M := by
  have key : ∀ (l : List UInt8) (a : Nat), a ≤ M → (digLoop M a l).1 ≤ M := fun l => by
    induction l with
    | nil => intro a h; exact h
    | cons c r ih =>
      intro a h
      unfold digLoop
      split
      · exact Nat.zero_le _
      · split
        · exact Nat.zero_le _
        · exact ih _ (by omega)
  unfold digitsV
  split
  · exact Nat.zero_le _
  · exact key l 0 (Nat.zero_le _)
theorem w63_wrap (n : Nat) (h : n ≤ 9223372036854775808) : IntKind.i64.wrap (n : Int) = w63 n := by
  unfold w63
  rw [IntKind.wrap_i64]
  split <;> omega
theorem oneOk_word {l t : List UInt8} {c : UInt8} {r : List UInt8} (h : l = c :: r) (hc : lowB c = true) (ht : l.takeWhile partB = t) (hw : wordB t = true) : OneOk l 2 t 0 := by
  unfold OneOk
  subst h
  rw [tokAt_cons, if_pos hc, ht, if_pos hw]
theorem oneOk_name {l t : List UInt8} {c : UInt8} {r : List UInt8} (h : l = c :: r) (hc : lowB c = true) (ht : l.takeWhile partB = t) (hw : wordB t = false) (h16 : t.length ≤ 16) : OneOk l 1 t 0 := by
  unfold OneOk
  subst h
  rw [tokAt_cons, if_pos hc, ht, if_neg (by rw [hw]; simp), if_pos h16]
theorem oneOk_long {l t : List UInt8} {c : UInt8} {r : List UInt8} (h : l = c :: r) (hc : lowB c = true) (ht : l.takeWhile partB = t) (h16 : ¬ t.length ≤ 16) : OneOk l 0 [] 0 := by
  unfold OneOk
  subst h
  rw [tokAt_cons, if_pos hc, ht, if_neg (fun hw => h16 (word_len hw)), if_neg h16]
theorem oneOk_num {l t : List UInt8} {c : UInt8} {r : List UInt8} (h : l = c :: r) (hc : lowB c = false) (hd : digB c = true) (ht : l.takeWhile digB = t) (hv : (digitsV t 9223372036854775808).2 = true) : OneOk l 3 t (w63 (digitsV t 9223372036854775808).1) := by
  unfold OneOk
  subst h
  rw [tokAt_cons, if_neg (by rw [hc]; simp), if_pos hd, ht, if_pos hv]
theorem oneOk_nonum {l t : List UInt8} {c : UInt8} {r : List UInt8} (h : l = c :: r) (hc : lowB c = false) (hd : digB c = true) (ht : l.takeWhile digB = t) (hv : (digitsV t 9223372036854775808).2 = false) : OneOk l 0 [] 0 := by
  unfold OneOk
  subst h
  rw [tokAt_cons, if_neg (by rw [hc]; simp), if_pos hd, ht, if_neg (by rw [hv]; simp)]
theorem signLen_le {l : List UInt8} {c : UInt8} {r : List UInt8} (h : l = c :: r) : signLen c r ≤ l.length := by
  subst h
  unfold signLen
  split
  · rename_i hp
    have hm : (c :: r).take 2 ∈ signPairs := by simpa using hp
    have h2 : ((c :: r).take 2).length = 2 := by
      simp only [signPairs, List.mem_cons, List.not_mem_nil, or_false] at hm
      rcases hm with h | h | h | h | h | h <;> rw [h] <;> rfl
    rw [List.length_take] at h2; omega
  · split <;> simp
theorem oneOk_sign {l : List UInt8} {c : UInt8} {r : List UInt8} (h : l = c :: r) (hc : lowB c = false) (hd : digB c = false) : OneOk l 4 (l.take (signLen c r)) 0 := by
  unfold OneOk
  subst h
  rw [tokAt_cons, if_neg (by rw [hc]; simp), if_neg (by rw [hd]; simp)]
  unfold signLen
  by_cases h1 : signPairs.contains ((c :: r).take 2) = true
  · rw [if_pos h1, if_pos h1]
  · rw [if_neg h1, if_neg h1]
    by_cases h2 : signOnes.contains c = true
    · rw [if_pos h2, if_pos h2]; rfl
    · rw [if_neg h2, if_neg h2]; rfl

set_option maxHeartbeats 4000000 in
set_option maxRecDepth 100000 in
theorem rone_any (l : List UInt8) (hl : l.length ≤ 140737488355328) (hpos : 0 < l.length) (w : World) :
    Calls Tryz.prog 12 #[.string ⟨l.toArray⟩] w fun e w' =>
      ∃ kd t n, e = .returned (.agg #[.int .u8 kd, .string ⟨(t : List UInt8).toArray⟩, .int .i64 n, .int .i64 0]) ∧ OneOk l kd t n ∧ Below w.heap.size w w' := by
  obtain ⟨c, r, hlr⟩ : ∃ c r, l = c :: r := by
    cases l with
    | nil => exact absurd hpos (by simp)
    | cons c r => exact ⟨c, r, rfl⟩
  have hget0 : ∀ h, ((⟨l.toArray⟩ : ByteArray)[0]'h) = c := fun h => by subst hlr; rfl
  have CL := Lib.hid (rletter_any c)
  have CD := Lib.hid (rdigit_any c)
  have CR := Lib.hid (rrun_any l hl)
  have CS := Lib.hid (rsign_any l hl c r hlr)
  have HLR := Lib.hid hlr
  clear hlr
  cases hc : lowB c
  · rw [hc] at CL
    cases hd : digB c
    · rw [hd] at CD
      have HO := Lib.hid (oneOk_sign HLR.out hc hd)
      have hsl := signLen_le HLR.out
      have hx := extract_list l 0 (signLen c r)
      rw [show (l.drop 0).take (signLen c r - 0) = l.take (signLen c r) from rfl] at hx
      clear CR hc hd HLR
      generalize l.take (signLen c r) = t at HO hx
      have HZ : Hid (∀ W', Below (w.alloc (.cells #[.int .u8 0, .string ⟨#[]⟩, .int .i64 0, .int .i64 0] 67 (0, 0))).heap.size (w.alloc (.cells #[.int .u8 0, .string ⟨#[]⟩, .int .i64 0, .int .i64 0] 67 (0, 0))) W' → W'.heap[w.heap.size]? = some (.cells #[.int .u8 0, .string ⟨#[]⟩, .int .i64 0, .int .i64 0] 67 (0, 0)) ∧ Below w.heap.size w W') := Lib.hid (fun W' h => by
        refine ⟨(h.block _ (by simp)).trans (heap_alloc_new w _), ((Below.refl _ _).alloc (Nat.le_refl _) _).trans (h.mono (by simp))⟩)
      generalize signLen c r = m at *
      go_enter Tryz.func12, Tryz.ntmps12
      go_wp2_with fail
      refine (CL.out _).mono ?_
      rintro e w' ⟨rfl, rfl⟩
      go_wp2_with fail
      refine (CD.out _).mono ?_
      rintro e w' ⟨rfl, rfl⟩
      go_wp2_with fail
      refine (CS.out _).mono ?_
      rintro e w1 ⟨rfl, hb⟩
      obtain ⟨hk, hb0⟩ := HZ.out _ hb
      have c0 := cell_blk hk 0
      have c1 := cell_blk hk 1
      have c2 := cell_blk hk 2
      have c3 := cell_blk hk 3
      have f0 := frozen_blk hk 0
      have f1 := frozen_blk hk 1
      have f2 := frozen_blk hk 2
      have f3 := frozen_blk hk 3
      simp only [List.getElem?_toArray, List.getElem?_cons_zero, List.getElem?_cons_succ] at c0 c1 c2 c3
      have HB1 := Lib.hid hb0
      clear hb hk hb0 HZ
      go_wp2_with fail
      refine bodyPost_ret (v := .agg #[.int .u8 4, .string ⟨t.toArray⟩, .int .i64 0, .int .i64 0]) (by simp [results, Tryz.results12, go_sem, c0, c1, c2, c3]) rfl ?_
      exact ⟨4, t, 0, rfl, HO.out, ((((HB1.out.setCell (p := ⟨w.heap.size, 0, none⟩) (Nat.le_refl _) _).setCell (p := ⟨w.heap.size, 1, none⟩) (Nat.le_refl _) _).setCell (p := ⟨w.heap.size, 2, none⟩) (Nat.le_refl _) _).setCell (p := ⟨w.heap.size, 3, none⟩) (Nat.le_refl _) _)⟩
    · rw [hd] at CD
      obtain ⟨t, ht⟩ : ∃ t, l.takeWhile digB = t := ⟨_, rfl⟩
      have CR := Lib.hid (fun W => CR.out false W)
      rw [runP_false, ht] at CR
      have htl : t.length ≤ l.length := by rw [← ht]; exact takeWhile_le l
      have hx := extract_list l 0 t.length
      rw [show (l.drop 0).take (t.length - 0) = l.take t.length from rfl, show l.take t.length = t by rw [← ht]; exact takeWhile_take _ _] at hx
      have CG := Lib.hid (fun W => digits_nat t (by omega) 9223372036854775808 (by omega) (by omega) W)
      have hle := digits_le t 9223372036854775808 (by omega)
      cases hv : (digitsV t 9223372036854775808).2
      · rw [hv] at CG
        have HO := Lib.hid (oneOk_nonum HLR.out hc hd ht hv)
        clear CS hc hd hv ht HLR
        generalize (digitsV t 9223372036854775808).1 = m at *
        go_enter Tryz.func12, Tryz.ntmps12
        go_wp2_with fail
        refine (CL.out _).mono ?_
        rintro e w' ⟨rfl, rfl⟩
        go_wp2_with fail
        refine (CD.out _).mono ?_
        rintro e w' ⟨rfl, rfl⟩
        go_wp2_with fail
        refine (CR.out _).mono ?_
        rintro e w' ⟨rfl, rfl⟩
        go_wp2_with fail
        refine (CG.out _).mono ?_
        rintro e w' ⟨rfl, rfl⟩
        go_wp2_with fail
        refine bodyPost_ret (v := .agg #[.int .u8 0, .string ⟨#[]⟩, .int .i64 0, .int .i64 0]) (by simp [results, Tryz.results12, go_sem]) rfl ?_
        exact ⟨0, [], 0, rfl, HO.out, (Below.refl _ _).alloc (Nat.le_refl _) _⟩
      · rw [hv] at CG
        have HO := Lib.hid (oneOk_num HLR.out hc hd ht hv)
        have hwr := w63_wrap _ hle
        clear CS hc hd hv ht HLR
        generalize (digitsV t 9223372036854775808).1 = m at *
        go_enter Tryz.func12, Tryz.ntmps12
        go_wp2_with fail
        refine (CL.out _).mono ?_
        rintro e w' ⟨rfl, rfl⟩
        go_wp2_with fail
        refine (CD.out _).mono ?_
        rintro e w' ⟨rfl, rfl⟩
        go_wp2_with fail
        refine (CR.out _).mono ?_
        rintro e w' ⟨rfl, rfl⟩
        go_wp2_with fail
        refine (CG.out _).mono ?_
        rintro e w' ⟨rfl, rfl⟩
        go_wp2_with fail
        refine bodyPost_ret (v := .agg #[.int .u8 3, .string ⟨t.toArray⟩, .int .i64 (w63 m), .int .i64 0]) (by simp [results, Tryz.results12, go_sem]) rfl ?_
        exact ⟨3, t, w63 m, rfl, HO.out, (Below.refl _ _).alloc (Nat.le_refl _) _⟩
  · rw [hc] at CL
    obtain ⟨t, ht⟩ : ∃ t, l.takeWhile partB = t := ⟨_, rfl⟩
    have CR := Lib.hid (fun W => CR.out true W)
    rw [runP_true, ht] at CR
    have htl : t.length ≤ l.length := by rw [← ht]; exact takeWhile_le l
    have hx := extract_list l 0 t.length
    rw [show (l.drop 0).take (t.length - 0) = l.take t.length from rfl, show l.take t.length = t by rw [← ht]; exact takeWhile_take _ _] at hx
    have CW := Lib.hid (fun W => rword_any t (by omega) W)
    by_cases h16 : t.length ≤ 16
    · cases hw : wordB t
      · rw [hw] at CW
        have HO := Lib.hid (oneOk_name HLR.out hc ht hw h16)
        clear CS CD hc hw ht HLR
        go_enter Tryz.func12, Tryz.ntmps12
        go_wp2_with fail
        refine (CL.out _).mono ?_
        rintro e w' ⟨rfl, rfl⟩
        go_wp2_with fail
        refine (CR.out _).mono ?_
        rintro e w' ⟨rfl, rfl⟩
        go_wp2_with fail
        refine (CW.out _).mono ?_
        rintro e w' ⟨rfl, rfl⟩
        go_wp2_with fail
        refine bodyPost_ret (v := .agg #[.int .u8 1, .string ⟨t.toArray⟩, .int .i64 0, .int .i64 0]) (by simp [results, Tryz.results12, go_sem]) rfl ?_
        exact ⟨1, t, 0, rfl, HO.out, (Below.refl _ _).alloc (Nat.le_refl _) _⟩
      · rw [hw] at CW
        have HO := Lib.hid (oneOk_word HLR.out hc ht hw)
        clear CS CD hc hw ht HLR
        go_enter Tryz.func12, Tryz.ntmps12
        go_wp2_with fail
        refine (CL.out _).mono ?_
        rintro e w' ⟨rfl, rfl⟩
        go_wp2_with fail
        refine (CR.out _).mono ?_
        rintro e w' ⟨rfl, rfl⟩
        go_wp2_with fail
        refine (CW.out _).mono ?_
        rintro e w' ⟨rfl, rfl⟩
        go_wp2_with fail
        refine bodyPost_ret (v := .agg #[.int .u8 2, .string ⟨t.toArray⟩, .int .i64 0, .int .i64 0]) (by simp [results, Tryz.results12, go_sem]) rfl ?_
        exact ⟨2, t, 0, rfl, HO.out, (Below.refl _ _).alloc (Nat.le_refl _) _⟩
    · have HO := Lib.hid (oneOk_long HLR.out hc ht h16)
      clear CS CD CW hc ht HLR
      go_enter Tryz.func12, Tryz.ntmps12
      go_wp2_with fail
      refine (CL.out _).mono ?_
      rintro e w' ⟨rfl, rfl⟩
      go_wp2_with fail
      refine (CR.out _).mono ?_
      rintro e w' ⟨rfl, rfl⟩
      go_wp2_with fail
      refine bodyPost_ret (v := .agg #[.int .u8 0, .string ⟨#[]⟩, .int .i64 0, .int .i64 0]) (by simp [results, Tryz.results12, go_sem]) rfl ?_
      exact ⟨0, [], 0, rfl, HO.out, (Below.refl _ _).alloc (Nat.le_refl _) _⟩
end Go.Proofs.YthepjanojmemaaaGreatDoor
