/-
  The document's lines and labels, walked.
-/
import Derived.Test.YtkkcngppmhebbaaGreatDoorRf18A
import Derived.Deep.QuietTactic
import Derived.BigQuiet
set_option linter.unusedVariables false
set_option linter.unusedSimpArgs false
namespace Go.Proofs.YtkkcngppmhebbaaGreatDoor
open Go.RowKit

theorem labelB_cons2 (x : UInt8) (r : List UInt8) : labelB (x :: r) = (decide ((x :: r).length ≤ 16) && lowV x && r.all nameV) := rfl

set_option maxHeartbeats 8000000 in
set_option maxRecDepth 100000 in
theorem lines_any (L : List UInt8) (hL : L.length ≤ 65536) (w : World) :
    Calls Tryz.prog 17 #[.string ⟨L.toArray⟩] w fun e w' => ∃ v acc rest, e = .returned (.tuple #[v, .string ⟨rest.toArray⟩]) ∧ acc ++ [rest] = linesV L ∧ w'.ownsRow w.heap.size 9 1 v acc.length (strVs acc) ∧ Below w.heap.size w w' := by
  obtain ⟨R, hR⟩ : ∃ R, linesV L = R := ⟨_, rfl⟩
  rw [hR]
  have HR := Lib.hid hR
  have hsz : (⟨L.toArray⟩ : ByteArray).size = L.length := by simp [ByteArray.size]
  have HLen := Lib.hid hL
  obtain ⟨H, hH⟩ : ∃ H, w.heap.size = H := ⟨_, rfl⟩
  have HS0 : Hid (WdSt H w 0 [] (.slice none 0 0) w) := Lib.hid ⟨World.ownsRow_nil _ _ _ _, by rw [← hH]; exact Below.refl _ _, by omega, Nat.le_refl _⟩
  rw [hH]
  clear hR hL hH
  go_enter Tryz.func17, Tryz.ntmps17
  go_wp2_with fail
  go_loopw [4, 5, 6] (fun v fr ii wr => ∃ (i f : Nat) (acc : List (List UInt8)) (vv : Value), v = vv ∧ ii = .int .i64 i ∧ fr = .int .i64 f ∧ i ≤ L.length ∧ f ≤ i ∧ Hid (WdSt H w i acc vv wr) ∧ Hid (acc ++ linesGo ((L.drop f).take (i - f)) (L.drop i) = R)) (fun _ _ ii _ => L.length - (intOf ii).toNat)
  case atStart => exact ⟨0, 0, [], _, rfl, rfl, rfl, by omega, Nat.le_refl _, HS0, Lib.hid (by rw [← HR.out]; rfl)⟩
  case round =>
    obtain ⟨i, f, acc, vv, rfl, rfl, rfl, hi, hfi, hS, hE⟩ := hrel
    clear HS0
    have p5 : (i : Int) ≤ 65537 := by have := HLen.out; omega
    have p2 : (0 : Int) ≤ (i : Int) := Int.natCast_nonneg _
    have p3 : (0 : Int) ≤ (f : Int) := Int.natCast_nonneg _
    have p4 : (f : Int) ≤ (i : Int) := by omega
    by_cases hlt : i < L.length
    · have hdrop : L.drop i = L[i] :: L.drop (i + 1) := List.drop_eq_getElem_cons hlt
      have hget : ∀ h, ((⟨L.toArray⟩ : ByteArray)[i]'h) = L[i] := fun h => rfl
      have hmore := Lib.hid (cur_more L f i hfi hlt)
      obtain ⟨b, hbb⟩ : ∃ b, L[i] = b := ⟨_, rfl⟩
      simp only [hbb] at hget hmore
      have hE2 := Lib.hid hE.out
      rw [hdrop, hbb, linesGo] at hE2
      have p6 : i < (⟨L.toArray⟩ : ByteArray).size := by rw [hsz]; exact hlt
      have p7 : (i : Int) < (L.length : Int) := by omega
      have p8 : (i : Int) ≤ (L.length : Int) := by omega
      clear hE hdrop hbb
      by_cases h10 : b = 10
      · subst h10
        have hx := extract_list L f i
        obtain ⟨cur, hcur⟩ : ∃ cur, (L.drop f).take (i - f) = cur := ⟨_, rfl⟩
        rw [hcur] at hx hE2
        have hR2 : Hid ((acc ++ [cur]) ++ linesGo ((L.drop (i + 1)).take (i + 1 - (i + 1))) (L.drop (i + 1)) = R) := Lib.hid (by
          have h := hE2.out
          rw [if_pos rfl] at h
          rw [← h, cur_nil]; simp)
        clear hE2 hcur hmore
        go_wp2_with (at_builtin; refine wpList_append_s rfl _ _ rfl _ acc rfl (own_alloc hS.out.row _) ⟨_, 0, none⟩ 1 rfl cur (news_s _ _) ?c2 ?c3 ?_)
        case c2 => have := hS.out.few; have := HLen.out; first | omega | (simp only [List.length_append, List.length_cons, List.length_nil]; omega)
        case c3 => have := hS.out.le; simp; omega
        intro v2 w2 hr hg
        have HO2 : Hid (w2.ownsRow H 9 1 v2 (acc ++ [cur]).length ((acc ++ [cur]).map fun x => Value.string ⟨x.toArray⟩)) := Lib.hid (by first | (simp only [List.length_append, List.length_cons, List.length_nil, Nat.zero_add]; exact hr) | simpa using hr)
        have HB2 : Hid (Below H w w2 ∧ H ≤ w2.heap.size) := Lib.hid ⟨(hS.out.bel.alloc hS.out.le _).grown hg (by have := hS.out.le; simp; omega) (own_fromS hS.out.row), by have := hS.out.le; have := hg.size; simp at this; omega⟩
        clear hr hg
        have S2 : Hid (WdSt H w (i + 1) (acc ++ [cur]) v2 w2) := Lib.hid ⟨HO2.out, HB2.out.1, HB2.out.2, by have := hS.out.few; simp; omega⟩
        go_wp2_with fail
        go_roundw
        case rel => exact ⟨i + 1, i + 1, acc ++ [cur], _, rfl, by go_num, by go_num, by omega, by omega, S2, hR2⟩
        case measure => simp [intOf]; omega
      · have f10 : ((b.toNat : Int) == 10) = false := by simp only [beq_eq_false_iff_ne]; intro e; exact h10 (UInt8.toNat_inj.1 (by exact_mod_cast e))
        have hR2 : Hid (acc ++ linesGo ((L.drop f).take (i + 1 - f)) (L.drop (i + 1)) = R) := Lib.hid (by
          have h := hE2.out
          rw [if_neg h10] at h
          rw [hmore.out]; exact h)
        have S2 : Hid (WdSt H w (i + 1) acc _ _) := Lib.hid ⟨hS.out.row, hS.out.bel, hS.out.le, by have := hS.out.few; omega⟩
        clear hE2
        go_wp2_with fail
        go_roundw
        case rel => exact ⟨i + 1, f, acc, _, rfl, by go_num, rfl, by omega, by omega, S2, hR2⟩
        case measure => simp [intOf]; omega
    · obtain rfl : i = L.length := by omega
      have hR1 : Hid (acc ++ [L.drop f] = R) := Lib.hid (by
        have h := hE.out
        rw [List.drop_length, linesGo, List.take_of_length_le (by rw [List.length_drop]; exact Nat.le_refl _)] at h
        exact h)
      have hx := extract_drop L f
      clear hE
      go_wp2_with fail
      go_quiet (fail)
      go_wp2_with fail
      refine bodyPost_ret (v := .tuple #[_, .string ⟨(L.drop f).toArray⟩]) (by simp [results, Tryz.results17, go_sem]; rfl) rfl ?_
      exact ⟨_, acc, L.drop f, rfl, hR1.out, hS.out.row, hS.out.bel.trans (below_drewN _ _ _)⟩

set_option maxHeartbeats 4000000 in
set_option maxRecDepth 100000 in
theorem rlabel_any (l : List UInt8) (hl : l.length ≤ 140737488355328) (w : World) :
    Calls Tryz.prog 111 #[.string ⟨l.toArray⟩] w fun e w' => e = .returned (.bool (labelB l)) ∧ w = w' := by
  obtain ⟨V, hV⟩ : ∃ V, labelB l = V := ⟨_, rfl⟩
  rw [hV]
  have HV := Lib.hid hV
  have hsz : (⟨l.toArray⟩ : ByteArray).size = l.length := by simp [ByteArray.size]
  clear hV
  have fin : ∀ {b : Bool}, b = V → Ending.returned (.bool b) = .returned (.bool V) := fun h => by rw [h]
  cases l with
  | nil =>
    have F := Lib.hid (show false = V by rw [← HV.out]; rfl)
    go_enter Tryz.func111, Tryz.ntmps111
    go_wp2_with fail
    go_ret
    exact ⟨fin F.out, rfl⟩
  | cons x r =>
    obtain ⟨l, hlx⟩ : ∃ l, x :: r = l := ⟨_, rfl⟩
    have hlen : 0 < l.length := by rw [← hlx]; simp
    have hget0 : ∀ h, ((⟨l.toArray⟩ : ByteArray)[0]'h) = x := fun h => by subst hlx; rfl
    have HV2 : Hid ((decide (l.length ≤ 16) && lowV x && r.all nameV) = V) := Lib.hid (by rw [← HV.out, labelB_cons2, hlx])
    have HLX := Lib.hid hlx
    rw [hlx] at hsz hl ⊢
    clear HV hlx
    have q1 : ¬ (l.length : Int) < 1 := by omega
    have q2 : 0 < (⟨l.toArray⟩ : ByteArray).size := by rw [hsz]; exact hlen
    by_cases hbig : l.length ≤ 16
    · have q3 : ¬ (16 : Int) < (l.length : Int) := by omega
      by_cases hlo : (x.toNat : Int) < 97
      · have F := Lib.hid (show false = V by
          rw [← HV2.out]
          have : lowV x = false := by simp only [lowV, Bool.and_eq_false_iff, decide_eq_false_iff_not]; omega
          rw [this]; simp)
        go_enter Tryz.func111, Tryz.ntmps111
        go_wp2_with fail
        go_ret
        exact ⟨fin F.out, rfl⟩
      · by_cases hhi : (122 : Int) < (x.toNat : Int)
        · have F := Lib.hid (show false = V by
            rw [← HV2.out]
            have : lowV x = false := by simp only [lowV, Bool.and_eq_false_iff, decide_eq_false_iff_not]; omega
            rw [this]; simp)
          go_enter Tryz.func111, Tryz.ntmps111
          go_wp2_with fail
          go_ret
          exact ⟨fin F.out, rfl⟩
        · have HV3 : Hid (l.all nameV = V) := Lib.hid (by
            rw [← HV2.out, ← HLX.out]
            have hlv : lowV x = true := by simp only [lowV, Bool.and_eq_true, decide_eq_true_eq]; omega
            have hnv : nameV x = true := by unfold nameV; rw [hlv]; rfl
            rw [List.all_cons, hnv, hlv, decide_eq_true (by rw [HLX.out]; exact hbig)]; rfl)
          go_enter Tryz.func111, Tryz.ntmps111
          go_wp2_with fail
          clear hget0 hlo hhi q1 q2 q3 HV2
          go_loopw [3] (fun ii wr => ∃ i : Nat, ii = .int .i64 i ∧ i ≤ l.length ∧ Hid ((l.drop i).all nameV = V) ∧ wr = w) (fun ii _ => l.length - (intOf ii).toNat)
          case atStart => exact ⟨0, rfl, Nat.zero_le _, Lib.hid (by rw [List.drop_zero]; exact HV3.out), rfl⟩
          case round =>
            obtain ⟨i, rfl, hi, hE, rfl⟩ := hrel
            by_cases hlt : i < l.length
            · have hdrop : l.drop i = l[i] :: l.drop (i + 1) := List.drop_eq_getElem_cons hlt
              have hget : ∀ h, ((⟨l.toArray⟩ : ByteArray)[i]'h) = l[i] := fun h => rfl
              obtain ⟨b, hbb⟩ : ∃ b, l[i] = b := ⟨_, rfl⟩
              simp only [hbb] at hget
              have hE2 := Lib.hid hE.out
              rw [hdrop, hbb, List.all_cons] at hE2
              have p6 : i < (⟨l.toArray⟩ : ByteArray).size := by rw [hsz]; exact hlt
              have p7 : (i : Int) < (l.length : Int) := by omega
              have p2 : (0 : Int) ≤ (i : Int) := Int.natCast_nonneg _
              have p8 : (i : Int) ≤ 16 := by omega
              clear hE hdrop hbb
              have good : nameV b = true → Hid ((l.drop (i + 1)).all nameV = V) := fun h => Lib.hid (by rw [← hE2.out, h]; rfl)
              have badd : nameV b = false → Hid (false = V) := fun h => Lib.hid (by rw [← hE2.out, h]; rfl)
              by_cases h95 : b = 95
              · subst h95
                have G := good (by decide)
                clear good badd hE2
                go_wp2_with fail
                go_roundw
                case rel => exact ⟨i + 1, by go_num, by omega, G, by first | rfl | trivial⟩
                case measure => simp [intOf]; omega
              · have f95 : ((b.toNat : Int) != 95) = true := by simp only [bne_iff_ne]; intro e; exact h95 (UInt8.toNat_inj.1 (by exact_mod_cast e))
                have n95 : (b == 95) = false := by simpa using h95
                by_cases a1 : (b.toNat : Int) < 97
                · by_cases a2 : (b.toNat : Int) < 48
                  · have G := badd (by
                      simp only [nameV, lowV, n95, Bool.or_false, Bool.or_eq_false_iff, Bool.and_eq_false_iff, decide_eq_false_iff_not]; omega)
                    clear good badd hE2 h95 n95
                    go_wp2_with fail
                    go_ret
                    exact ⟨fin G.out, rfl⟩
                  · by_cases a3 : (57 : Int) < (b.toNat : Int)
                    · have G := badd (by
                        simp only [nameV, lowV, n95, Bool.or_false, Bool.or_eq_false_iff, Bool.and_eq_false_iff, decide_eq_false_iff_not]; omega)
                      clear good badd hE2 h95 n95
                      go_wp2_with fail
                      go_ret
                      exact ⟨fin G.out, rfl⟩
                    · have G := good (by
                        simp only [nameV, lowV, n95, Bool.or_false, Bool.or_eq_true, Bool.and_eq_true, decide_eq_true_eq]; omega)
                      clear good badd hE2 h95 n95
                      go_wp2_with fail
                      go_roundw
                      case rel => exact ⟨i + 1, by go_num, by omega, G, by first | rfl | trivial⟩
                      case measure => simp [intOf]; omega
                · by_cases a4 : (122 : Int) < (b.toNat : Int)
                  · have a2 : ¬ (b.toNat : Int) < 48 := by omega
                    have a3 : (57 : Int) < (b.toNat : Int) := by omega
                    have G := badd (by
                      simp only [nameV, lowV, n95, Bool.or_false, Bool.or_eq_false_iff, Bool.and_eq_false_iff, decide_eq_false_iff_not]; omega)
                    clear good badd hE2 h95 n95
                    go_wp2_with fail
                    go_ret
                    exact ⟨fin G.out, rfl⟩
                  · have G := good (by
                      simp only [nameV, lowV, n95, Bool.or_false, Bool.or_eq_true, Bool.and_eq_true, decide_eq_true_eq]; omega)
                    clear good badd hE2 h95 n95
                    go_wp2_with fail
                    go_roundw
                    case rel => exact ⟨i + 1, by go_num, by omega, G, by first | rfl | trivial⟩
                    case measure => simp [intOf]; omega
            · obtain rfl : i = l.length := by omega
              have F : Hid (true = V) := Lib.hid (by have h := hE.out; rw [List.drop_length] at h; exact h)
              go_wp2_with fail
              go_ret
              exact ⟨fin F.out, rfl⟩
    · have q3 : (16 : Int) < (l.length : Int) := by omega
      have F := Lib.hid (show false = V by rw [← HV2.out, decide_eq_false hbig]; rfl)
      go_enter Tryz.func111, Tryz.ntmps111
      go_wp2_with fail
      go_ret
      exact ⟨fin F.out, rfl⟩
end Go.Proofs.YtkkcngppmhebbaaGreatDoor
