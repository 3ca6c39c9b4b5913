/-
  lex.Tokens walked.
-/
import Derived.Test.YthepjanojmemaaaGreatDoorLexNumber
import Derived.Test.YthepjanojmemaaaGreatDoorLexBlank
set_option linter.unusedVariables false
set_option linter.unusedSimpArgs false
namespace Go.Proofs.YthepjanojmemaaaGreatDoor
open Go.RowKit

def rankV : Value → Nat
  | .func (.func n) _ _ => if n = 10 then 2 else 1
  | _ => 0
theorem rankV_st (st : St) : rankV (stV st) = rank st := by cases st <;> rfl

/-- what Tokens answers -/
def TokOut (l : List UInt8) (w : World) (e : Ending) (w' : World) : Prop :=
  Below w.heap.size w w' ∧ ∃ res, Scans l 0 [] res ∧
    match res with
    | .bad n => e = .returned (.tuple #[.slice none 0 0, .int .i64 n, .int .i64 5])
    | .ok toks => ∃ v, e = .returned (.tuple #[v, .int .i64 0, .int .i64 0]) ∧ w'.ownsRow (w.heap.size + 1) 67 4 v toks.length (toks.flatMap Tok.cells)

theorem neq_func (n : Nat) (W : World) : (binOp .neq 63 (.func (.func n) #[] #[]) .nilFunc).run Tryz.prog W = .ok (.bool true) W := by kernel_rfl
theorem neq_nilfunc (W : World) : (binOp .neq 63 .nilFunc .nilFunc).run Tryz.prog W = .ok (.bool false) W := by kernel_rfl
theorem scan_start (w : World) (l : List UInt8) : ScanAt w.heap.size l 0 0 [] (.slice none 0 0) (w.alloc (.cells #[.string ⟨l.toArray⟩, .int .i64 0, .int .i64 0, .slice none 0 0] 61 (0, 0))) :=
  ⟨heap_alloc_new w _, by simp [maxLen], Or.inl ⟨rfl, rfl⟩⟩

set_option maxHeartbeats 6400000 in
set_option maxRecDepth 100000 in
theorem tokens_big (l : List UInt8) (hl : l.length ≤ 140737488355328) (h : 65536 < l.length) (w : World) :
    Calls Tryz.prog 4 #[.string ⟨l.toArray⟩] w fun e w' => e = .returned (.tuple #[.slice none 0 0, .int .i64 0, .int .i64 3]) ∧ w = w' := by
  go_enter Tryz.func4, Tryz.ntmps4
  go_wp2_with fail
  go_ret3
  exact ⟨rfl, rfl⟩

set_option maxHeartbeats 6400000 in
set_option maxRecDepth 100000 in
theorem tokens_any (l : List UInt8) (hl : l.length ≤ 65536) (w : World) (G : LGlobs w) :
    Calls Tryz.prog 4 #[.string ⟨l.toArray⟩] w (TokOut l w) := by
  obtain ⟨res, hres⟩ : ∃ res, Scans l 0 [] res := ⟨_, rfl⟩
  have h0 : Inv l res ⟨.blank, 0, 0, []⟩ := ⟨Nat.zero_le _, Nat.le_refl _, Nat.le_refl _, trivial, (fun h => by cases h), fun _ => hres⟩
  have HI0 := Lib.hid h0
  have HG := Lib.hid G
  have HRes := Lib.hid hres
  clear h0 G hres
  have CH : Hid (∀ (l : List UInt8) W, Calls Tryz.prog 11 #[.string ⟨l.toArray⟩, .string ⟨#[47, 47]⟩] W fun e w' => e = .returned (.bool (slashB l)) ∧ W = w') := Lib.hid fun l W => by
    refine (Tryz.strings_HasPrefix ⟨l.toArray⟩ ⟨#[47, 47]⟩ W).mono ?_
    rintro e w' ⟨he, hw⟩
    exact ⟨he, hw.symm⟩
  have HS0 := Lib.hid (scan_start w l)
  have q1 := neq_func
  have q2 := neq_nilfunc
  have HB0 : Hid (Below w.heap.size w (w.alloc (.cells #[.string ⟨l.toArray⟩, .int .i64 0, .int .i64 0, .slice none 0 0] 61 (0, 0)))) := Lib.hid ((Below.refl _ _).alloc (Nat.le_refl _) _)
  go_enter Tryz.func4, Tryz.ntmps4
  go_wp2_with fail
  go_loopw [7] (fun f wr => ∃ st at_ line toks, f = stV st ∧ Hid (Inv l res ⟨st, at_, line, toks⟩) ∧ Hid (∃ v, ScanAt w.heap.size l at_ line toks v wr) ∧ Hid (Below w.heap.size w wr)) (fun f wr => 3 * (l.length - atOf w.heap.size wr) + rankV f)
  case atStart => exact ⟨.blank, 0, 0, [], rfl, HI0, Lib.hid ⟨_, HS0.out⟩, HB0⟩
  case round =>
    obtain ⟨st, at_, line, toks, rfl, hI, hS, hBa⟩ := hrel
    obtain ⟨v, hSa⟩ := hS.out
    have hSa := Lib.hid hSa
    clear hS HI0 HS0 HB0
    cases st with
    | stop =>
      rw [show stV .stop = .nilFunc from rfl]
      have hat := hI.out.at_
      have c0 := cell_blk hSa.out.blk 0
      have c1 := cell_blk hSa.out.blk 1
      have c2 := cell_blk hSa.out.blk 2
      have c3 := cell_blk hSa.out.blk 3
      simp only [List.getElem?_toArray, List.getElem?_cons_zero, List.getElem?_cons_succ] at c0 c1 c2 c3
      dsimp only at hat
      have HF := Lib.hid (hI.out.res.1 rfl)
      clear hI
      have p1 : (0 : Int) ≤ (at_ : Int) := Int.natCast_nonneg _
      have p2 : (at_ : Int) ≤ (l.length : Int) := by omega
      by_cases hlt : at_ < l.length
      · have p3 : (at_ : Int) < (l.length : Int) := by omega
        have hx := extract_drop l at_
        cases hsl : slashB (l.drop at_)
        · have CS := Lib.hid (fun W => CH.out (l.drop at_) W)
          rw [hsl] at CS
          have HE := Lib.hid (show res = .bad line by rw [← HF.out]; exact if_pos ⟨hlt, hsl⟩)
          clear hsl CH
          go_wp2_with fail
          refine (CS.out _).mono ?_
          rintro e w' ⟨rfl, rfl⟩
          go_wp2_with fail
          go_quiet (fail)
          go_wp2_with fail
          go_ret3
          exact ⟨hBa.out.trans (below_drewN _ _ _), res, HRes.out, by rw [HE.out]; rfl⟩
        · have CS := Lib.hid (fun W => CH.out (l.drop at_) W)
          rw [hsl] at CS
          have HE := Lib.hid (show res = .ok toks by rw [← HF.out]; exact if_neg (by rw [hsl]; simp))
          clear hsl CH
          go_wp2_with fail
          refine (CS.out _).mono ?_
          rintro e w' ⟨rfl, rfl⟩
          go_wp2_with fail
          go_ret3
          exact ⟨hBa.out, res, HRes.out, by rw [HE.out]; exact ⟨v, rfl, hSa.out.own⟩⟩
      · have p3 : ¬ ((at_ : Int) < (l.length : Int)) := by omega
        have p4 : decide ((at_ : Int) < (l.length : Int)) = false := by simpa using p3
        have HE := Lib.hid (show res = .ok toks by rw [← HF.out]; exact if_neg (fun h => hlt h.1))
        clear CH
        go_wp2_with fail
        go_ret3
        exact ⟨hBa.out, res, HRes.out, by rw [HE.out]; exact ⟨v, rfl, hSa.out.own⟩⟩
    | blank =>
      have HI2 : Hid (Inv l res ⟨.blank, at_, line, toks⟩) := hI
      have hat := hI.out.at_
      have hln := hI.out.line
      have hlen := hI.out.len
      dsimp only at hat hln hlen

      have HN := Lib.hid (inv_step HI2.out (by intro h; cases h))
      clear hI
      rw [show stV .blank = .func (.func 10) #[] #[] from rfl]
      go_wp2_with fail
      refine (blank_any w.heap.size l at_ line toks v _ hl hln hat hSa.out).mono ?_
      rintro e w' ⟨rfl, hb, v', hv⟩
      have HV : Hid (∃ v', ScanAt w.heap.size l (stepF l ⟨.blank, at_, line, toks⟩).at_ (stepF l ⟨.blank, at_, line, toks⟩).line (stepF l ⟨.blank, at_, line, toks⟩).toks v' w') := Lib.hid ⟨v', hv⟩
      have HB := Lib.hid (hBa.out.trans hb)
      have HM := Lib.hid (atOf_scan hv)
      have HM0 := Lib.hid (atOf_scan hSa.out)
      have HZ : Hid (stV (blankF l at_ line toks).st = stV (stepF l ⟨.blank, at_, line, toks⟩).st) := Lib.hid rfl
      clear hb hv
      generalize stV (blankF l at_ line toks).st = z at HZ ⊢
      go_wp2_with fail
      refine ⟨⟨(stepF l ⟨.blank, at_, line, toks⟩).st, (stepF l ⟨.blank, at_, line, toks⟩).at_, (stepF l ⟨.blank, at_, line, toks⟩).line, (stepF l ⟨.blank, at_, line, toks⟩).toks, HZ.out, Lib.hid HN.out.1, HV, HB⟩, ?_⟩
      have h8 := HN.out.2
      have h9 : 3 * (l.length - atOf w.heap.size w') + rankV z = meas l (stepF l ⟨.blank, at_, line, toks⟩) := by
        rw [HZ.out, rankV_st]
        have := HM.out
        rw [this]
        rfl
      rw [h9, HM0.out]
      exact h8
    | remark =>
      have HI2 : Hid (Inv l res ⟨.remark, at_, line, toks⟩) := hI
      have hat := hI.out.at_
      have hln := hI.out.line
      have hlen := hI.out.len
      dsimp only at hat hln hlen

      have HN := Lib.hid (inv_step HI2.out (by intro h; cases h))
      clear hI
      rw [show stV .remark = .func (.func 95) #[] #[] from rfl]
      go_wp2_with fail
      refine (remark_any w.heap.size l at_ line toks v _ hl hat hSa.out).mono ?_
      rintro e w' ⟨rfl, hb, v', hv⟩
      have HV : Hid (∃ v', ScanAt w.heap.size l (stepF l ⟨.remark, at_, line, toks⟩).at_ (stepF l ⟨.remark, at_, line, toks⟩).line (stepF l ⟨.remark, at_, line, toks⟩).toks v' w') := Lib.hid ⟨v', hv⟩
      have HB := Lib.hid (hBa.out.trans hb)
      have HM := Lib.hid (atOf_scan hv)
      have HM0 := Lib.hid (atOf_scan hSa.out)
      have HZ : Hid (stV (remarkF l at_ line toks).st = stV (stepF l ⟨.remark, at_, line, toks⟩).st) := Lib.hid rfl
      clear hb hv
      generalize stV (remarkF l at_ line toks).st = z at HZ ⊢
      go_wp2_with fail
      refine ⟨⟨(stepF l ⟨.remark, at_, line, toks⟩).st, (stepF l ⟨.remark, at_, line, toks⟩).at_, (stepF l ⟨.remark, at_, line, toks⟩).line, (stepF l ⟨.remark, at_, line, toks⟩).toks, HZ.out, Lib.hid HN.out.1, HV, HB⟩, ?_⟩
      have h8 := HN.out.2
      have h9 : 3 * (l.length - atOf w.heap.size w') + rankV z = meas l (stepF l ⟨.remark, at_, line, toks⟩) := by
        rw [HZ.out, rankV_st]
        have := HM.out
        rw [this]
        rfl
      rw [h9, HM0.out]
      exact h8
    | name =>
      have HI2 : Hid (Inv l res ⟨.name, at_, line, toks⟩) := hI
      have hat := hI.out.at_
      have hln := hI.out.line
      have hlen := hI.out.len
      dsimp only at hat hln hlen
      have hlt : at_ < l.length := by obtain ⟨c, r, h, _⟩ := hI.out.asks; exact drop_lt h
      have HN := Lib.hid (inv_step HI2.out (by intro h; cases h))
      clear hI
      rw [show stV .name = .func (.func 96) #[] #[] from rfl]
      go_wp2_with fail
      refine (name_any w.heap.size l at_ line toks v _ hl hlen hlt hSa.out (fun W h => HG.out.below (hBa.out.trans h))).mono ?_
      rintro e w' ⟨rfl, hb, v', hv⟩
      have HV : Hid (∃ v', ScanAt w.heap.size l (stepF l ⟨.name, at_, line, toks⟩).at_ (stepF l ⟨.name, at_, line, toks⟩).line (stepF l ⟨.name, at_, line, toks⟩).toks v' w') := Lib.hid ⟨v', hv⟩
      have HB := Lib.hid (hBa.out.trans hb)
      have HM := Lib.hid (atOf_scan hv)
      have HM0 := Lib.hid (atOf_scan hSa.out)
      have HZ : Hid (stV (nameF l at_ line toks).st = stV (stepF l ⟨.name, at_, line, toks⟩).st) := Lib.hid rfl
      clear hb hv
      generalize stV (nameF l at_ line toks).st = z at HZ ⊢
      go_wp2_with fail
      refine ⟨⟨(stepF l ⟨.name, at_, line, toks⟩).st, (stepF l ⟨.name, at_, line, toks⟩).at_, (stepF l ⟨.name, at_, line, toks⟩).line, (stepF l ⟨.name, at_, line, toks⟩).toks, HZ.out, Lib.hid HN.out.1, HV, HB⟩, ?_⟩
      have h8 := HN.out.2
      have h9 : 3 * (l.length - atOf w.heap.size w') + rankV z = meas l (stepF l ⟨.name, at_, line, toks⟩) := by
        rw [HZ.out, rankV_st]
        have := HM.out
        rw [this]
        rfl
      rw [h9, HM0.out]
      exact h8
    | number =>
      have HI2 : Hid (Inv l res ⟨.number, at_, line, toks⟩) := hI
      have hat := hI.out.at_
      have hln := hI.out.line
      have hlen := hI.out.len
      dsimp only at hat hln hlen
      have hlt : at_ < l.length := by obtain ⟨c, r, h, _⟩ := hI.out.asks; exact drop_lt h
      have HN := Lib.hid (inv_step HI2.out (by intro h; cases h))
      clear hI
      rw [show stV .number = .func (.func 97) #[] #[] from rfl]
      go_wp2_with fail
      refine (number_any w.heap.size l at_ line toks v _ hl hlen hlt hSa.out (fun W h => (HG.out.below (hBa.out.trans h)).g)).mono ?_
      rintro e w' ⟨rfl, hb, v', hv⟩
      have HV : Hid (∃ v', ScanAt w.heap.size l (stepF l ⟨.number, at_, line, toks⟩).at_ (stepF l ⟨.number, at_, line, toks⟩).line (stepF l ⟨.number, at_, line, toks⟩).toks v' w') := Lib.hid ⟨v', hv⟩
      have HB := Lib.hid (hBa.out.trans hb)
      have HM := Lib.hid (atOf_scan hv)
      have HM0 := Lib.hid (atOf_scan hSa.out)
      have HZ : Hid (stV (numberF l at_ line toks).st = stV (stepF l ⟨.number, at_, line, toks⟩).st) := Lib.hid rfl
      clear hb hv
      generalize stV (numberF l at_ line toks).st = z at HZ ⊢
      go_wp2_with fail
      refine ⟨⟨(stepF l ⟨.number, at_, line, toks⟩).st, (stepF l ⟨.number, at_, line, toks⟩).at_, (stepF l ⟨.number, at_, line, toks⟩).line, (stepF l ⟨.number, at_, line, toks⟩).toks, HZ.out, Lib.hid HN.out.1, HV, HB⟩, ?_⟩
      have h8 := HN.out.2
      have h9 : 3 * (l.length - atOf w.heap.size w') + rankV z = meas l (stepF l ⟨.number, at_, line, toks⟩) := by
        rw [HZ.out, rankV_st]
        have := HM.out
        rw [this]
        rfl
      rw [h9, HM0.out]
      exact h8
    | sign =>
      have HI2 : Hid (Inv l res ⟨.sign, at_, line, toks⟩) := hI
      have hat := hI.out.at_
      have hln := hI.out.line
      have hlen := hI.out.len
      dsimp only at hat hln hlen
      have hlt : at_ < l.length := by obtain ⟨c, r, h, _⟩ := hI.out.asks; exact drop_lt h
      have HN := Lib.hid (inv_step HI2.out (by intro h; cases h))
      clear hI
      rw [show stV .sign = .func (.func 98) #[] #[] from rfl]
      go_wp2_with fail
      refine (sign_any w.heap.size l at_ line toks v _ hl hlen hlt hSa.out).mono ?_
      rintro e w' ⟨rfl, hb, v', hv⟩
      have HV : Hid (∃ v', ScanAt w.heap.size l (stepF l ⟨.sign, at_, line, toks⟩).at_ (stepF l ⟨.sign, at_, line, toks⟩).line (stepF l ⟨.sign, at_, line, toks⟩).toks v' w') := Lib.hid ⟨v', hv⟩
      have HB := Lib.hid (hBa.out.trans hb)
      have HM := Lib.hid (atOf_scan hv)
      have HM0 := Lib.hid (atOf_scan hSa.out)
      have HZ : Hid (stV (signF l at_ line toks).st = stV (stepF l ⟨.sign, at_, line, toks⟩).st) := Lib.hid rfl
      clear hb hv
      generalize stV (signF l at_ line toks).st = z at HZ ⊢
      go_wp2_with fail
      refine ⟨⟨(stepF l ⟨.sign, at_, line, toks⟩).st, (stepF l ⟨.sign, at_, line, toks⟩).at_, (stepF l ⟨.sign, at_, line, toks⟩).line, (stepF l ⟨.sign, at_, line, toks⟩).toks, HZ.out, Lib.hid HN.out.1, HV, HB⟩, ?_⟩
      have h8 := HN.out.2
      have h9 : 3 * (l.length - atOf w.heap.size w') + rankV z = meas l (stepF l ⟨.sign, at_, line, toks⟩) := by
        rw [HZ.out, rankV_st]
        have := HM.out
        rw [this]
        rfl
      rw [h9, HM0.out]
      exact h8
end Go.Proofs.YthepjanojmemaaaGreatDoor
