/-
  The document's Text of instructions, walked.
-/
import Derived.Test.YtkkcngppmhebbaaDoorRefText
set_option linter.unusedVariables false
set_option linter.unusedSimpArgs false
namespace Go.Proofs.YtkkcngppmhebbaaDoor
open Go.RowKit

theorem end_tx {a b : List UInt8 × Int} (h : a = b) : Ending.returned (.tuple #[.string ⟨a.1.toArray⟩, .int .i64 a.2]) = .returned (.tuple #[.string ⟨b.1.toArray⟩, .int .i64 b.2]) := by rw [h]
theorem lineT_len {o : Cmd} (h : o.Wf) : (lineT o).length ≤ 200 := by
  unfold lineT
  cases hf : formV o.k with
  | none => simp
  | some f =>
    have h1 := kindW_len o.k
    have h2 := calcW_len o.c
    have h3 := itoa_len o.n h.n.1 h.n.2
    have ha := itoa_len o.a (by have := h.a; omega) (by have := h.a; omega)
    have hb := itoa_len o.b (by have := h.b; omega) (by have := h.b; omega)
    have hd := itoa_len o.d (by have := h.d; omega) (by have := h.d; omega)
    have hr := formV_regs hf
    have h4 : ((([o.a, o.b, o.d].take f.regs)).flatMap regText).length ≤ 69 := by
      rcases (by omega : f.regs = 0 ∨ f.regs = 1 ∨ f.regs = 2 ∨ f.regs = 3) with e | e | e | e <;> rw [e] <;> simp [regText] <;> omega
    dsimp only
    simp only [List.length_append]
    have h5 : (if f.cal = true then 32 :: calcW o.c else []).length ≤ 4 := by split <;> simp; omega
    have h6 : (if f.num = true then 32 :: Lib.itoa o.n else []).length ≤ 22 := by split <;> simp; omega
    omega

set_option maxHeartbeats 8000000 in
set_option maxRecDepth 100000 in
theorem rtext18_any (A : Option Addr) (c : Nat) (l : List Cmd) (w : World) (hl : CmdsAt w w.heap.size A l) (hwf : ∀ x ∈ l, x.Wf) (hn : l.length ≤ 140737488355328) :
    Calls Tryd.prog 9 #[.slice A l.length c] w fun e w' => e = .returned (.tuple #[.string ⟨(textA l).1.toArray⟩, .int .i64 (textA l).2]) ∧ Below w.heap.size w w' := by
  obtain ⟨R, hR⟩ : ∃ R, textA l = R := ⟨_, rfl⟩
  rw [hR]
  by_cases hbig : l.length > 262144
  · have F : Hid ((([] : List UInt8), (3 : Int)) = R) := Lib.hid (by rw [← hR]; unfold textA; rw [if_pos hbig])
    have p : (262144 : Int) < (l.length : Int) := by omega
    clear hR hl hwf
    go_enter Tryd.func9, Tryd.ntmps9
    go_wp2_with fail
    go_ret2
    exact ⟨end_tx F.out, Below.refl _ _⟩
  · have HA : Hid ((if l.all okV then (match textGo [] l with | some t => (t, (0 : Int)) | none => ([], 3)) else ([], 1)) = R) := Lib.hid (by rw [← hR]; unfold textA; rw [if_neg hbig]; rfl)
    have p : ¬ (262144 : Int) < (l.length : Int) := by omega
    have HWF := Lib.hid hwf
    obtain ⟨H, hH⟩ : ∃ H, w.heap.size = H := ⟨_, rfl⟩
    rw [hH] at hl
    have HL : Hid (∀ W, Below H w W → CmdsAt W H A l) := Lib.hid fun W hb => hl.below hb (Nat.le_refl _)
    clear hR hl hwf
    go_enter Tryd.func9, Tryd.ntmps9
    go_wp2_with fail
    go_loopw [4] (fun i wr => ∃ j : Nat, i = .int .i64 j ∧ j ≤ l.length ∧ Hid (Below H w wr) ∧ Hid (∀ k x, k < j → l[k]? = some x → okV x = true)) (fun i _ => l.length - (intOf i).toNat)
    case atStart => exact ⟨0, rfl, by omega, Lib.hid (Below.refl _ _), Lib.hid fun k x hk => by omega⟩
    case round =>
      obtain ⟨j, rfl, hj, hW, hok⟩ := hrel
      by_cases hlt : j < l.length
      · skip
        obtain ⟨b, off, rfl, hbl, hc⟩ := HL.out _ hW.out (by rintro rfl; simp at hlt)
        have hx := hc j _ (List.getElem?_eq_getElem hlt)
        have HX := Lib.hid (List.getElem?_eq_getElem hlt)
        have hwf := HWF.out _ (List.getElem_mem hlt)
        clear hc
        generalize l[j] = x at *
        have x0 := hx.c0
        have x1 := hx.c1
        have x2 := hx.c2
        have x3 := hx.c3
        have x4 := hx.c4
        have x5 := hx.c5
        have p1 : (j : Int) < (l.length : Int) := by omega
        have p2 : (0 : Int) ≤ (j : Int) := Int.natCast_nonneg _
        clear hx
        have CK := Lib.hid (fun W => rcheck_any x.k x.c x.a x.b x.d x.n hwf.c.1 hwf.n W)
        cases hx : okV x
        · have C1 : Hid (∀ W, Calls Tryd.prog 25 #[.agg #[.int .u8 x.k, .int .u8 x.c, .int .u8 x.a, .int .u8 x.b, .int .u8 x.d, .int .i64 x.n]] W fun e w' => e = .returned (.int .i64 1) ∧ Below W.heap.size W w') := Lib.hid fun W => by
            have h := CK.out W
            rw [show okE ⟨x.k, x.c, x.a, x.b, x.d, x.n⟩ = 1 by unfold okE; rw [show okV ⟨x.k, x.c, x.a, x.b, x.d, x.n⟩ = false from hx]; rfl] at h
            exact h
          have F : Hid ((([] : List UInt8), (1 : Int)) = R) := Lib.hid (by rw [← HA.out]; exact (if_neg (fun h => by rw [List.all_eq_true.1 h _ (List.mem_of_getElem? HX.out)] at hx; cases hx)).symm)
          clear hx CK HX HL hok HWF hwf
          go_wp2_with fail
          refine (C1.out _).mono ?_
          rintro e w1 ⟨rfl, hb1⟩
          have HB1 : Hid (Below H w w1) := Lib.hid (hW.out.trans (hb1.mono (by have := hW.out.size; omega)))
          clear hb1
          go_wp2_with fail
          go_ret2
          exact ⟨end_tx F.out, by first | exact HB1.out | (rw [hH]; exact HB1.out)⟩
        · have C1 : Hid (∀ W, Calls Tryd.prog 25 #[.agg #[.int .u8 x.k, .int .u8 x.c, .int .u8 x.a, .int .u8 x.b, .int .u8 x.d, .int .i64 x.n]] W fun e w' => e = .returned (.int .i64 0) ∧ Below W.heap.size W w') := Lib.hid fun W => by
            have h := CK.out W
            rw [show okE ⟨x.k, x.c, x.a, x.b, x.d, x.n⟩ = 0 by unfold okE; rw [show okV ⟨x.k, x.c, x.a, x.b, x.d, x.n⟩ = true from hx]; rfl] at h
            exact h
          have HOK : Hid (∀ k x, k < j + 1 → l[k]? = some x → okV x = true) := Lib.hid fun k y hk hy => by
            rcases Nat.lt_or_ge k j with h | h
            · exact hok.out k y h hy
            · obtain rfl : k = j := by omega
              rw [HX.out] at hy
              injection hy with hy
              rw [← hy]; exact hx
          clear hx CK HX HL hok HWF hwf
          go_wp2_with fail
          refine (C1.out _).mono ?_
          rintro e w1 ⟨rfl, hb1⟩
          have HB1 : Hid (Below H w w1) := Lib.hid (hW.out.trans (hb1.mono (by have := hW.out.size; omega)))
          clear hb1
          go_wp2_with fail
          go_roundw
          case rel => exact ⟨j + 1, by go_num, by omega, HB1, HOK⟩
          case measure => simp [intOf]; omega
      · have hall : l.all okV = true := List.all_eq_true.2 fun x hx => by
          obtain ⟨k, hk, rfl⟩ := List.getElem_of_mem hx
          exact hok.out k _ (by omega) (List.getElem?_eq_getElem hk)
        have HR : Hid ((match textGo [] l with | some t => (t, (0 : Int)) | none => ([], 3)) = R) := Lib.hid (by rw [← HA.out]; exact (if_pos hall).symm)
        have HALL := Lib.hid (fun x (hx : x ∈ l) => List.all_eq_true.1 hall x hx)
        have p1 : ¬ ((j : Int) < (l.length : Int)) := by omega
        have HW0 := Lib.hid hW.out
        clear hok hall HA hW
        go_wp2_with fail
        clear p1
        go_loopw [5, 6] (fun s i wr2 => ∃ (j : Nat) (t : List UInt8), i = .int .i64 j ∧ s = .string ⟨t.toArray⟩ ∧ j ≤ l.length ∧ t.length ≤ 65536 ∧ Hid (Below H w wr2) ∧ Hid (textGo t (l.drop j) = textGo [] l)) (fun _ i _ => l.length - (intOf i).toNat)
        case atStart => exact ⟨0, [], rfl, rfl, by omega, by simp, HW0, Lib.hid (by rw [List.drop_zero])⟩
        case round =>
          clear hlt hj HW0
          obtain ⟨j, t, rfl, rfl, hj, htl, hW, hGo⟩ := hrel
          by_cases hlt : j < l.length
          · have hGo2 : Hid (textGo t (l[j] :: l.drop (j + 1)) = textGo [] l) := Lib.hid (by rw [← List.drop_eq_getElem_cons hlt]; exact hGo.out)
            have hok := HALL.out _ (List.getElem_mem hlt)
            obtain ⟨b, off, rfl, hbl, hc⟩ := HL.out _ hW.out (by rintro rfl; simp at hlt)
            have hx := hc j _ (List.getElem?_eq_getElem hlt)
            have HX := Lib.hid (List.getElem?_eq_getElem hlt)
            have hwf := HWF.out _ (List.getElem_mem hlt)
            clear hc
            generalize l[j] = x at *
            have x0 := hx.c0
            have x1 := hx.c1
            have x2 := hx.c2
            have x3 := hx.c3
            have x4 := hx.c4
            have x5 := hx.c5
            have p1 : (j : Int) < (l.length : Int) := by omega
            have p2 : (0 : Int) ≤ (j : Int) := Int.natCast_nonneg _
            clear hx
            have CL := Lib.hid (fun W => rline_any x hwf hok W)
            obtain ⟨f, hf, -⟩ := okV_all hok
            have hll := lineT_len hwf
            have HST : Hid (textGo t (x :: l.drop (j + 1)) = if (t ++ lineT x ++ [10]).length > 65536 then none else textGo (t ++ lineT x ++ [10]) (l.drop (j + 1))) := Lib.hid (by rw [textGo, textOp_line hf, List.append_assoc])
            clear hok hf HWF hwf HALL HL HX hGo
            generalize lineT x = lt at *
            go_wp2_with fail
            refine (CL.out _).mono ?_
            rintro e w1 ⟨rfl, hb1⟩
            have HB1 : Hid (Below H w w1) := Lib.hid (hW.out.trans (hb1.mono (by have := hW.out.size; omega)))
            clear hb1 CL hW x0 x1 x2 x3 x4 x5
            by_cases h65 : 65536 < t.length + lt.length + 1
            · have g1 : decide ((65536 : Int) < (t.length : Int) + (lt.length : Int) + 1) = true := by simp; omega
              have F : Hid ((([] : List UInt8), (3 : Int)) = R) := Lib.hid (by
                have h := HST.out
                rw [if_pos (by simp; omega)] at h
                rw [← HR.out, ← hGo2.out, h])
              go_wp2_with fail
              go_ret2
              exact ⟨end_tx F.out, by first | exact HB1.out | (rw [hH]; exact HB1.out)⟩
            · have g1 : decide ((65536 : Int) < (t.length : Int) + (lt.length : Int) + 1) = false := by simp; omega
              have hGo3 : Hid (textGo (t ++ lt ++ [10]) (l.drop (j + 1)) = textGo [] l) := Lib.hid (by
                have h := HST.out
                rw [if_neg (by simp; omega)] at h
                rw [← h]; exact hGo2.out)
              go_wp2_with fail
              go_roundw
              case rel => exact ⟨j + 1, t ++ lt ++ [10], by go_num, by rw [cat_b' t lt, cat_b' (t ++ lt) [10]], by omega, by (simp; omega), HB1, hGo3⟩
              case measure => simp [intOf]; omega
          · have F : Hid ((t, (0 : Int)) = R) := Lib.hid (by
              have h := hGo.out
              rw [List.drop_of_length_le (by omega), textGo] at h
              rw [← HR.out, ← h])
            have p1 : ¬ ((j : Int) < (l.length : Int)) := by omega
            clear hGo HALL HL HWF
            go_wp2_with fail
            go_ret2
            exact ⟨end_tx F.out, by first | exact hW.out | (rw [hH]; exact hW.out)⟩
end Go.Proofs.YtkkcngppmhebbaaDoor
