/-
  The document's reader: an instruction of words, with a number; and any.
-/
import Derived.Test.YtkkcngppmhebbaaGreatDoorRf18F
set_option linter.unusedVariables false
set_option linter.unusedSimpArgs false
namespace Go.Proofs.YtkkcngppmhebbaaGreatDoor
open Go.RowKit

set_option maxHeartbeats 16000000 in
set_option maxRecDepth 100000 in
theorem rins_num (H RB : Nat) (ops : List Cmd) (labs : List (List UInt8)) (plcs : List Nat) (gls : List (Nat × Nat × List UInt8)) (vo vl vp vg : Value) (w0 : List UInt8) (rest : List (List UInt8)) (A : Option Addr) (c0 : Nat) (line : Nat) (w : World) (h : RfS RB ops labs plcs gls vo vl vp vg w)
    (hW : w.ownsRow H 9 1 (.slice A (rest.length + 1) c0) (rest.length + 1) ((w0 :: rest).map fun l => Value.string ⟨l.toArray⟩)) (hlen : ∀ x ∈ w0 :: rest, x.length ≤ 65536) (hrl : rest.length ≤ 65536)
    (hops : ops.length ≤ 100000) (hgs : gls.length ≤ 100000) (hline : line ≤ 100000) (cal num : Bool) (hcc : Hid (cal = false)) (hnn : Hid (num = true)) (r : Nat) (lo hi : Int) (jump : Bool) (hfo : formV (kindOf w0) = some ⟨cal, r, num, lo, hi, jump⟩) :
    Calls Tryz.prog 20 #[.pointer (some ⟨RB, 0, none⟩), .slice A (rest.length + 1) c0, .int .i64 line] w fun e w' =>
      (match insV ⟨ops, labs.zip plcs, gls⟩ w0 rest line with
        | some r' => e = .returned (.int .i64 0) ∧ ∃ vo' vg', RfS RB r'.ops labs plcs r'.goals vo' vl vp vg' w'
        | none => e = .returned (.int .i64 13)) ∧ Below RB w w' := by
  have HNum : Hid (rest.length ≤ 65536 ∧ ops.length ≤ 100000 ∧ gls.length ≤ 100000 ∧ line ≤ 100000) := Lib.hid ⟨hrl, hops, hgs, hline⟩
  obtain ⟨R, hRr⟩ : ∃ R, insV ⟨ops, labs.zip plcs, gls⟩ w0 rest line = R := ⟨_, rfl⟩
  rw [hRr]
  rw [insV_run] at hRr
  have HRr := Lib.hid hRr
  obtain ⟨Wb, rfl⟩ := words_addr hW
  have HH := Lib.hid h
  have HWc : Hid (∀ W, Below w.heap.size w W → ∀ i x, (w0 :: rest)[i]? = some x → W.cell? ⟨Wb, i, none⟩ = some (.string ⟨x.toArray⟩)) := Lib.hid fun W hb i x hx => words_at (own_belowI hW hb) i x hx
  have HWg : Hid (∀ w4 w5 : World, Below w.heap.size w w4 → w4.grownBy w5 vg.ownBlock → ∀ i x, (w0 :: rest)[i]? = some x → w5.cell? ⟨Wb, i, none⟩ = some (.string ⟨x.toArray⟩)) := Lib.hid fun w4 w5 hb hg i x hx =>
    words_at (own_keptBy (own_belowI hW hb) hg (fun k hk e => own_ne (HH.out.below hb).gls (own_belowI hW hb) (by decide) k e hk)) i x hx
  have HLn := Lib.hid hlen
  have CK := Lib.hid (rkind_any w0 w)
  have hc0 := HWc.out w (Below.refl _ _) 0 w0 rfl
  have p3 : (0 : Int) < ((rest.length : Int) + 1) := by omega
  clear hRr hW hlen hrl hops hgs hline h
  go_enter Tryz.func20, Tryz.ntmps20
  go_wp2_with fail
  refine CK.out.mono ?_
  rintro e w1 ⟨rfl, hb1⟩
  obtain ⟨K, hK⟩ : ∃ K, kindOf w0 = K := ⟨_, rfl⟩
  rw [hK] at HRr hfo ⊢
  clear hK
  obtain ⟨Xo, hXo⟩ : ∃ Xo, w1.heap.size = Xo := ⟨_, rfl⟩
  obtain ⟨w2, hw2⟩ : ∃ w2, w1.alloc (.cells #[.int .u8 K, .int .u8 0, .int .u8 0, .int .u8 0, .int .u8 0, .int .i64 0] 79 (0, 0)) = w2 := ⟨_, rfl⟩
  have hb2 : Below w1.heap.size w1 w2 := by rw [← hw2]; exact (Below.refl _ _).alloc (Nat.le_refl _) _
  have o2 : w2.heap[Xo]? = some (.cells #[.int .u8 K, .int .u8 0, .int .u8 0, .int .u8 0, .int .u8 0, .int .i64 0] 79 (0, 0)) := by rw [← hw2, ← hXo]; exact heap_alloc_new w1 _
  have HB2 : Hid (Below w.heap.size w w2) := Lib.hid (hb1.trans (hb2.mono hb1.size))
  have HO2 := Lib.hid o2
  have HXo : Hid (w.heap.size ≤ Xo) := Lib.hid (by rw [← hXo]; exact hb1.size)
  have HNm := Lib.hid (And.intro hXo hw2)
  clear hb1 hb2 o2 CK hc0 p3 hXo hw2
  have CF := Lib.hid (rfields_some K ⟨cal, r, num, lo, hi, jump⟩ hfo)
  have HRr : Hid ((if rest.length = (partsV K).length then insEnd ⟨ops, labs.zip plcs, gls⟩ line (runParts ⟨K, 0, 0, 0, 0, 0⟩ 0 [] (partsV K) rest) else none) = R) := Lib.hid (by have h := HRr.out; rw [hfo] at h; exact h)
  obtain ⟨hr3, hcn, hju⟩ := form_facts hfo
  rw [partsV_of hfo] at HRr
  obtain ⟨hd, hhd⟩ : ∃ hd : List UInt8, (if cal = true then [99] else []) = hd := ⟨_, rfl⟩
  obtain ⟨tl, htl⟩ : ∃ tl : List UInt8, (if num = true then (if jump = true then [108] else [110]) else []) = tl := ⟨_, rfl⟩
  rw [hhd, htl] at HRr
  obtain ⟨R0, hR0⟩ : ∃ R0, runParts ⟨K, 0, 0, 0, 0, 0⟩ 0 [] (hd ++ List.replicate r 114 ++ tl) rest = R0 := ⟨_, rfl⟩
  rw [hR0] at HRr
  obtain ⟨Rm, hRm⟩ : ∃ Rm : Option Rd, insEnd ⟨ops, labs.zip plcs, gls⟩ line R0 = Rm := ⟨_, rfl⟩
  rw [hRm] at HRr
  have HRm := Lib.hid hRm
  clear hRm
  have HR0 := Lib.hid hR0
  have HTl := Lib.hid htl
  clear hR0 htl
  have HJ := Lib.hid hju
  have HR3 := Lib.hid hr3
  dsimp only at CF
  obtain ⟨V, hV⟩ : ∃ V : Int, (r : Int) = V := ⟨_, rfl⟩
  rw [hV] at CF
  clear hfo hju hr3
  go_wp2_with fail
  obtain ⟨e1, e2⟩ := HNm.out
  simp only [e1, e2]
  clear e1 e2 HNm
  refine (CF.out _).mono ?_
  rintro e w3 ⟨rfl, hb3⟩
  obtain ⟨Xf, hXf⟩ : ∃ Xf, w3.heap.size = Xf := ⟨_, rfl⟩
  obtain ⟨wz, hwz⟩ : ∃ wz, w3.alloc (.cells #[.bool false, .int .i64 0, .bool false] 117 (0, 0)) = wz := ⟨_, rfl⟩
  have hbz : Below w3.heap.size w3 wz := by rw [← hwz]; exact (Below.refl _ _).alloc (Nat.le_refl _) _
  have hz : wz.heap[Xf]? = some (.cells #[.bool false, .int .i64 0, .bool false] 117 (0, 0)) := by rw [← hwz, ← hXf]; exact heap_alloc_new w3 _
  obtain ⟨w4, hw4⟩ : ∃ w4, ((wz.setCell ⟨Xf, 0, none⟩ (.bool cal)).setCell ⟨Xf, 1, none⟩ (.int .i64 V)).setCell ⟨Xf, 2, none⟩ (.bool num) = w4 := ⟨_, rfl⟩
  have hb4 : Below w3.heap.size w3 w4 := by
    rw [← hw4]
    exact ((hbz.setCell (p := ⟨Xf, 0, none⟩) (Nat.le_of_eq hXf) _).setCell (p := ⟨Xf, 1, none⟩) (Nat.le_of_eq hXf) _).setCell (p := ⟨Xf, 2, none⟩) (Nat.le_of_eq hXf) _
  have o4 := blk_below (blk_below HO2.out hb3) hb4
  have f4 : w4.heap[Xf]? = some (.cells #[.bool cal, .int .i64 V, .bool num] 117 (0, 0)) := by
    rw [← hw4]
    have := blk_set (blk_set (blk_set hz 0 (.bool cal)) 1 (.int .i64 V)) 2 (.bool num)
    simpa using this
  have zc0 := cell_of hz 0
  have zc1 := cell_of hz 1
  have zc2 := cell_of hz 2
  have zf0 := frz_of hz 0
  have zf1 := frz_of hz 1
  have zf2 := frz_of hz 2
  simp only [List.getElem?_toArray, List.getElem?_cons_zero, List.getElem?_cons_succ] at zc0 zc1 zc2
  clear hbz hz
  have HI4 : Hid (InB w Xo Xf ⟨K, 0, 0, 0, 0, 0⟩ cal num r w4) := Lib.hid ⟨o4, by rw [hV]; exact f4, HB2.out.trans ((hb3.trans (hb4.mono hb3.size)).mono HB2.out.size)⟩
  have HXf : Hid (Xo < Xf) := Lib.hid (by
    have h1 := (Array.getElem?_eq_some_iff.1 HO2.out).1
    have h2 := hb3.size
    omega)
  have y0 := cell_of f4 0
  have y1 := cell_of f4 1
  have y2 := cell_of f4 2
  simp only [List.getElem?_toArray, List.getElem?_cons_zero, List.getElem?_cons_succ] at y0 y1 y2
  clear hb3 hb4 o4 f4 CF HB2 HO2
  obtain ⟨V1, hV1⟩ : ∃ V1, wrap64 (1 + V) = V1 := ⟨_, rfl⟩
  obtain ⟨V2, hV2⟩ : ∃ V2, wrap64 (V1 + 1) = V2 := ⟨_, rfl⟩
  have hVV := Lib.hid (want_of HR3.out hV hV1 hV2)
  have HV12 := Lib.hid (And.intro hV1 hV2)
  clear hV1 hV2
  obtain rfl := hcc.out
  obtain rfl := hnn.out
  obtain rfl : ([] : List UInt8) = hd := hhd
  clear hcn hcc hnn
  rw [List.nil_append] at HRr HR0
  have htn : tl.length = 1 := by have h := HTl.out; rw [if_pos rfl] at h; rw [← h]; cases jump <;> rfl
  by_cases hl : rest.length = r + 1
  · have t1 : (((rest.length : Int) + 1) != V2) = false := bne_at (by rw [hVV.out.2]; simp; omega)
    replace HRr : Hid (Rm = R) := Lib.hid (by have h := HRr.out; rw [if_pos (by simp [htn, hl])] at h; exact h)
    have HL : Hid (rest.length = r + 1) := Lib.hid hl
    clear hl htn
    obtain ⟨hV1, hV2⟩ := HV12.out
    go_wp2_with fail
    clear hXf hw4 hwz zc0 zc1 zc2 zf0 zf1 zf2 t1 hV1 hV2 hVV y0 y1 y2
    obtain ⟨Xr, hXr⟩ : ∃ Xr, w4.heap.size = Xr := ⟨_, rfl⟩
    obtain ⟨w5, hw5⟩ : ∃ w5, w4.alloc (.cells #[.int .u8 0, .int .u8 0, .int .u8 0] 121 (0, 0)) = w5 := ⟨_, rfl⟩
    simp only [hXr, hw5]
    have hb5 : Below w4.heap.size w4 w5 := by rw [← hw5]; exact (Below.refl _ _).alloc (Nat.le_refl _) _
    have r5 : Hid (w5.heap[Xr]? = some (.cells #[.int .u8 0, .int .u8 0, .int .u8 0] 121 (0, 0))) := Lib.hid (by rw [← hw5, ← hXr]; exact heap_alloc_new w4 _)
    have HI5 := Lib.hid (HI4.out.below hb5)
    have HXr : Hid (Xo < Xr ∧ Xf < Xr ∧ w.heap.size ≤ Xr) := Lib.hid (by
      have h1 := (Array.getElem?_eq_some_iff.1 HI4.out.o).1
      have h2 := (Array.getElem?_eq_some_iff.1 HI4.out.f).1
      have h3 := HI4.out.bel.size
      omega)
    clear hXr hw5 hb5
    go_loopw [11, 13] (fun aa ii wr => ∃ (q : Nat) (o : Cmd), ii = .int .i64 q ∧ aa = .int .i64 (1 + (q : Int)) ∧ q ≤ r ∧ Hid (InB w Xo Xf ⟨K, 0, 0, 0, 0, 0⟩ false true r wr) ∧ Hid (wr.heap[Xr]? = some (.cells #[.int .u8 o.a, .int .u8 o.b, .int .u8 o.d] 121 (0, 0))) ∧ Hid (o.k = K ∧ o.c = 0 ∧ o.n = 0) ∧ Hid (runParts o q [] (List.replicate (r - q) 114 ++ tl) (rest.drop (0 + q)) = R0)) (fun _ ii _ => r - (intOf ii).toNat)
    case atStart => exact ⟨0, ⟨K, 0, 0, 0, 0, 0⟩, rfl, rfl, Nat.zero_le _, HI5, r5, Lib.hid ⟨rfl, rfl, rfl⟩, Lib.hid (by rw [← HR0.out]; rfl)⟩
    case round =>
      obtain ⟨q, o, rfl, rfl, hq, hI, hXr, ho, hrun⟩ := hrel
      clear HI5 r5 HR0
      have y1 := cell_of hI.out.f 1
      simp only [List.getElem?_toArray, List.getElem?_cons_zero, List.getElem?_cons_succ] at y1
      have p2 : (0 : Int) ≤ (q : Int) := Int.natCast_nonneg _
      by_cases hlt : q < r
      · have hlt3 : 0 + q < rest.length := by have h := HL.out; omega
        obtain ⟨x, hx⟩ : ∃ x, rest[0 + q] = x := ⟨_, rfl⟩
        have hwx := HWc.out wr hI.out.bel (1 + q) x (by rw [show 1 + q = (0 + q) + 1 by omega, List.getElem?_cons_succ, List.getElem?_eq_getElem hlt3, hx])
        have hxl : x.length ≤ 65536 := HLn.out x (List.mem_cons_of_mem _ (by rw [← hx]; exact List.getElem_mem hlt3))
        have CR := Lib.hid (rregister_any x (by omega) wr)
        have hreg := rreg_regOf x
        obtain ⟨n, b, hnb⟩ : ∃ n b, rregV x = (n, b) := ⟨(rregV x).1, (rregV x).2, rfl⟩
        rw [hnb] at CR hreg
        dsimp only at CR hreg
        have hrun2 : Hid ((match regOf x with | some v => runParts (setReg o q v) (q + 1) [] (List.replicate (r - (q + 1)) 114 ++ tl) (rest.drop (0 + (q + 1))) | none => none) = R0) := Lib.hid (by
          have h := hrun.out
          rw [show r - q = (r - (q + 1)) + 1 by omega, List.replicate_succ, List.cons_append, List.drop_eq_getElem_cons hlt3, hx, runParts_r] at h
          exact h)
        have p4 : (q : Int) < (r : Int) := by omega
        have p5 : (1 : Int) + (q : Int) < (rest.length : Int) + 1 := by omega
        have p6 : (0 : Int) ≤ (1 : Int) + (q : Int) := by omega
        have HQ3 : Hid (q ≤ 2) := Lib.hid (by have h := HR3.out; omega)
        have HLT := Lib.hid hlt
        clear hrun hx hlt3 hxl hnb hlt
        cases b with
        | false =>
          rw [if_neg (by simp)] at hreg
          have HF : Hid (none = R) := Lib.hid (by
            have h := hrun2.out
            rw [← hreg] at h
            have h2 := HRm.out
            rw [← h] at h2
            exact h2.trans HRr.out)
          obtain rfl := HF.out
          clear HF HRr HRm hrun2 hreg
          go_wp2_with (go_at_call 115; refine CR.out.mono ?_; rintro e w7 ⟨rfl, rfl⟩)
          go_ret
          exact ⟨rfl, hI.out.bel.mono (Nat.le_of_lt HH.out.lt)⟩
        | true =>
          by_cases hn8 : n < 8
          · rw [if_pos ⟨rfl, hn8⟩] at hreg
            have hrun3 := Lib.hid hrun2.out
            rw [← hreg] at hrun3
            have t8 : decide ((8 : Int) ≤ (n : Int)) = false := by simp; omega
            have hwu : IntKind.u8.wrap (n : Int) = (n : Int) := by rw [IntKind.wrap_u8]; omega
            clear hrun2 hreg hn8
            have hq3 := HQ3.out
            obtain rfl | rfl | rfl : q = 0 ∨ q = 1 ∨ q = 2 := by omega
            · skip
              have q0 := cell_of hXr.out 0
              have f0 := frz_of hXr.out 0
              simp only [List.getElem?_toArray, List.getElem?_cons_zero, List.getElem?_cons_succ] at q0
              have HI2 : Hid (InB w Xo Xf ⟨K, 0, 0, 0, 0, 0⟩ false true r (wr.setCell ⟨Xr, 0, none⟩ (.int .u8 n))) := Lib.hid (by
                have hx := HXr.out
                exact ⟨blk_set_ne hI.out.o (by omega) _ _, blk_set_ne hI.out.f (by omega) _ _, hI.out.bel.setCell (p := ⟨Xr, 0, none⟩) hx.2.2 _⟩)
              have HX2 : Hid ((wr.setCell ⟨Xr, 0, none⟩ (.int .u8 n)).heap[Xr]? = some (.cells #[.int .u8 (setReg o 0 n).a, .int .u8 (setReg o 0 n).b, .int .u8 (setReg o 0 n).d] 121 (0, 0))) := Lib.hid (by
                have := blk_set hXr.out 0 (.int .u8 n)
                simpa [setReg] using this)
              have HO2 : Hid ((setReg o 0 n).k = K ∧ (setReg o 0 n).c = 0 ∧ (setReg o 0 n).n = 0) := Lib.hid (by simpa [setReg] using ho.out)
              have hlq := HLT.out
              clear hI hXr ho hq3
              go_wp2_with (go_at_call 115; refine CR.out.mono ?_; rintro e w7 ⟨rfl, rfl⟩)
              go_roundw
              case rel => exact ⟨1, setReg o 0 n, by first | rfl | go_num, by first | rfl | go_num, by omega, HI2, HX2, HO2, hrun3⟩
              case measure => simp [intOf]; omega
            · skip
              have q0 := cell_of hXr.out 1
              have f0 := frz_of hXr.out 1
              simp only [List.getElem?_toArray, List.getElem?_cons_zero, List.getElem?_cons_succ] at q0
              have HI2 : Hid (InB w Xo Xf ⟨K, 0, 0, 0, 0, 0⟩ false true r (wr.setCell ⟨Xr, 1, none⟩ (.int .u8 n))) := Lib.hid (by
                have hx := HXr.out
                exact ⟨blk_set_ne hI.out.o (by omega) _ _, blk_set_ne hI.out.f (by omega) _ _, hI.out.bel.setCell (p := ⟨Xr, 1, none⟩) hx.2.2 _⟩)
              have HX2 : Hid ((wr.setCell ⟨Xr, 1, none⟩ (.int .u8 n)).heap[Xr]? = some (.cells #[.int .u8 (setReg o 1 n).a, .int .u8 (setReg o 1 n).b, .int .u8 (setReg o 1 n).d] 121 (0, 0))) := Lib.hid (by
                have := blk_set hXr.out 1 (.int .u8 n)
                simpa [setReg] using this)
              have HO2 : Hid ((setReg o 1 n).k = K ∧ (setReg o 1 n).c = 0 ∧ (setReg o 1 n).n = 0) := Lib.hid (by simpa [setReg] using ho.out)
              have hlq := HLT.out
              clear hI hXr ho hq3
              go_wp2_with (go_at_call 115; refine CR.out.mono ?_; rintro e w7 ⟨rfl, rfl⟩)
              go_roundw
              case rel => exact ⟨2, setReg o 1 n, by first | rfl | go_num, by first | rfl | go_num, by omega, HI2, HX2, HO2, hrun3⟩
              case measure => simp [intOf]; omega
            · skip
              have q0 := cell_of hXr.out 2
              have f0 := frz_of hXr.out 2
              simp only [List.getElem?_toArray, List.getElem?_cons_zero, List.getElem?_cons_succ] at q0
              have HI2 : Hid (InB w Xo Xf ⟨K, 0, 0, 0, 0, 0⟩ false true r (wr.setCell ⟨Xr, 2, none⟩ (.int .u8 n))) := Lib.hid (by
                have hx := HXr.out
                exact ⟨blk_set_ne hI.out.o (by omega) _ _, blk_set_ne hI.out.f (by omega) _ _, hI.out.bel.setCell (p := ⟨Xr, 2, none⟩) hx.2.2 _⟩)
              have HX2 : Hid ((wr.setCell ⟨Xr, 2, none⟩ (.int .u8 n)).heap[Xr]? = some (.cells #[.int .u8 (setReg o 2 n).a, .int .u8 (setReg o 2 n).b, .int .u8 (setReg o 2 n).d] 121 (0, 0))) := Lib.hid (by
                have := blk_set hXr.out 2 (.int .u8 n)
                simpa [setReg] using this)
              have HO2 : Hid ((setReg o 2 n).k = K ∧ (setReg o 2 n).c = 0 ∧ (setReg o 2 n).n = 0) := Lib.hid (by simpa [setReg] using ho.out)
              have hlq := HLT.out
              clear hI hXr ho hq3
              go_wp2_with (go_at_call 115; refine CR.out.mono ?_; rintro e w7 ⟨rfl, rfl⟩)
              go_roundw
              case rel => exact ⟨3, setReg o 2 n, by first | rfl | go_num, by first | rfl | go_num, by omega, HI2, HX2, HO2, hrun3⟩
              case measure => simp [intOf]; omega
          · rw [if_neg (fun h => hn8 h.2)] at hreg
            have HF : Hid (none = R) := Lib.hid (by
              have h := hrun2.out
              rw [← hreg] at h
              have h2 := HRm.out
              rw [← h] at h2
              exact h2.trans HRr.out)
            have t8 : decide ((8 : Int) ≤ (n : Int)) = true := by simp; omega
            obtain rfl := HF.out
            clear HF HRr HRm hrun2 hreg hn8
            go_wp2_with (go_at_call 115; refine CR.out.mono ?_; rintro e w7 ⟨rfl, rfl⟩)
            go_ret
            exact ⟨rfl, hI.out.bel.mono (Nat.le_of_lt HH.out.lt)⟩
      · obtain rfl : q = r := by omega
        have hrun2 : Hid (runParts o q [] tl (rest.drop (0 + q)) = R0) := Lib.hid (by
          have h := hrun.out
          rw [Nat.sub_self, List.replicate_zero, List.nil_append] at h
          exact h)
        clear hrun hlt
        have y2 := cell_of hI.out.f 2
        have q0 := cell_of hXr.out 0
        have q1 := cell_of hXr.out 1
        have q2 := cell_of hXr.out 2
        have u2 := cell_of hI.out.o 2
        have u3 := cell_of hI.out.o 3
        have u4 := cell_of hI.out.o 4
        have g2 := frz_of hI.out.o 2
        have g3 := frz_of hI.out.o 3
        have g4 := frz_of hI.out.o 4
        simp only [List.getElem?_toArray, List.getElem?_cons_zero, List.getElem?_cons_succ] at y2 q0 q1 q2 u2 u3 u4
        have HI2 : Hid (∀ W, Below wr.heap.size wr W → InB w Xo Xf o false true q (((W.setCell ⟨Xo, 2, none⟩ (.int .u8 o.a)).setCell ⟨Xo, 3, none⟩ (.int .u8 o.b)).setCell ⟨Xo, 4, none⟩ (.int .u8 o.d))) := Lib.hid (fun W hb => by
          have hI2 := hI.out.below hb
          refine ⟨?_, blk_set_ne (blk_set_ne (blk_set_ne hI2.f (Nat.ne_of_gt HXf.out) _ _) (Nat.ne_of_gt HXf.out) _ _) (Nat.ne_of_gt HXf.out) _ _, ((hI2.bel.setCell (p := ⟨Xo, 2, none⟩) HXo.out _).setCell (p := ⟨Xo, 3, none⟩) HXo.out _).setCell (p := ⟨Xo, 4, none⟩) HXo.out _⟩
          have := blk_set (blk_set (blk_set hI2.o 2 (.int .u8 o.a)) 3 (.int .u8 o.b)) 4 (.int .u8 o.d)
          rw [ho.out.1, ho.out.2.1, ho.out.2.2]
          simpa using this)
        have HNE : Hid (Xr ≠ Xo) := Lib.hid (Nat.ne_of_gt HXr.out.1)
        have hne := HNE.out
        clear hI hXr
        clear hV
        go_wp2_with fail
        go_region
        obtain ⟨w8, hw8⟩ : ∃ w8, (((wr.setCell ⟨Xo, 2, none⟩ (.int .u8 o.a)).setCell ⟨Xo, 3, none⟩ (.int .u8 o.b)).setCell ⟨Xo, 4, none⟩ (.int .u8 o.d)).drew = w8 := ⟨_, rfl⟩
        have HI8 : Hid (InB w Xo Xf o false true q w8) := Lib.hid (by rw [← hw8]; exact (HI2.out wr (Below.refl _ _)).below (Below.refl _ _).drew)
        simp only [hw8]
        clear hw8 HI2 y1 y2 q0 q1 q2 u2 u3 u4 g2 g3 g4 hne HNE
        have y2 := cell_of HI8.out.f 2
        have z0 := cell_of HI8.out.o 0
        have z1 := cell_of HI8.out.o 1
        have z2 := cell_of HI8.out.o 2
        have z3 := cell_of HI8.out.o 3
        have z4 := cell_of HI8.out.o 4
        have z5 := cell_of HI8.out.o 5
        have f5 := frz_of HI8.out.o 5
        simp only [List.getElem?_toArray, List.getElem?_cons_zero, List.getElem?_cons_succ] at y2 z0 z1 z2 z3 z4 z5
        have HB8 : Hid (Below RB w w8) := Lib.hid (HI8.out.bel.mono (Nat.le_of_lt HH.out.lt))
        have HR8 := Lib.hid (HH.out.below HI8.out.bel)
        have HO8 := Lib.hid HI8.out.o
        have hq1 : q < rest.length := by have := HL.out; omega
        obtain ⟨x, hx⟩ : ∃ x, rest[q]? = some x := ⟨_, List.getElem?_eq_getElem hq1⟩
        have hdr : rest.drop q = [x] := by
          rw [List.drop_eq_getElem_cons hq1]
          rw [List.getElem?_eq_getElem hq1] at hx
          injection hx with hx
          rw [hx, List.drop_eq_nil_of_le (by have := HL.out; omega)]
        have hxat : Hid ((w0 :: rest)[1 + q]? = some x) := Lib.hid (by rw [show 1 + q = q + 1 by omega, List.getElem?_cons_succ]; exact hx)
        have hwx := HWc.out w8 HI8.out.bel (1 + q) x hxat.out
        have hxl : x.length ≤ 65536 := HLn.out x (List.mem_cons_of_mem _ (List.mem_of_getElem? hx))
        have CPr := Lib.hid (fun W => rparse_any x (by omega) W)
        have CL := Lib.hid (fun W => rlabel_any x (by omega) W)
        have p5 : (1 : Int) + (q : Int) < (rest.length : Int) + 1 := by omega
        have p6 : (0 : Int) ≤ (1 : Int) + (q : Int) := by omega
        rw [Nat.zero_add, hdr] at hrun2
        obtain ⟨pl, hpl⟩ : ∃ pl : UInt8, (if jump = true then 108 else 110) = pl := ⟨_, rfl⟩
        have htl1 : tl = [pl] := by
          have h : (if jump = true then ([108] : List UInt8) else [110]) = tl := HTl.out
          rw [← hpl, ← h]
          cases jump <;> rfl
        have hpn9 : pl ≠ 99 ∧ pl ≠ 114 := by rw [← hpl]; cases jump <;> decide
        have HPl : Hid (jump = true ↔ pl = 108) := Lib.hid (by rw [← hpl]; cases jump <;> simp)
        have hrun3 : Hid ((if (parseV ⟨x.toArray⟩).2 = 0 then runParts { o with n := (parseV ⟨x.toArray⟩).1 } q [] [] [] else if pl = 108 ∧ labelB x = true then runParts o q ([] ++ [x]) [] [] else none) = R0) := Lib.hid (by rw [← hrun2.out, htl1, runParts_n _ _ _ _ _ _ _ hpn9.1 hpn9.2])
        clear hx hdr hq1 hxl hrun2 htl1 hpl hpn9
        rcases parseV_cases2 x with ⟨pn, hpn, hpr⟩ | hpn
        · rw [hpn] at CPr hrun3
          have HFin : Hid ((if okV ⟨o.k, o.c, o.a, o.b, o.d, pn⟩ = true then some (⟨ops ++ [⟨o.k, o.c, o.a, o.b, o.d, pn⟩], labs.zip plcs, gls⟩ : Rd) else none) = R) := Lib.hid (by
            have h := HRm.out
            rw [← hrun3.out, if_pos rfl, runParts_nil] at h
            have h2 := h.trans HRr.out
            simpa [insEnd] using h2)
          have HW0 : Hid (0 ≤ o.c ∧ -9223372036854775808 ≤ pn ∧ pn ≤ 9223372036854775807) := Lib.hid (by rw [ho.out.2.1]; exact ⟨Int.le_refl 0, hpr⟩)
          have HO3 : Hid ((w8.setCell ⟨Xo, 5, none⟩ (.int .i64 pn)).heap[Xo]? = some (.cells #[.int .u8 o.k, .int .u8 o.c, .int .u8 o.a, .int .u8 o.b, .int .u8 o.d, .int .i64 pn] 79 (0, 0))) := Lib.hid (by have := blk_set HO8.out 5 (.int .i64 pn); simpa using this)
          have HR3f := Lib.hid (HR8.out.setO (fun k hk => Nat.lt_of_lt_of_le (HH.out.ops.lt k hk).2 HXo.out) HO8.out (by have h1 := HH.out.lt; have h2 := HXo.out; omega) 5 (.int .i64 pn))
          have HB3 := Lib.hid (HB8.out.setCell (p := ⟨Xo, 5, none⟩) (by have h1 := HH.out.lt; have h2 := HXo.out; show RB ≤ Xo; omega) (.int .i64 pn))
          clear hrun3 hpr hpn
          have HVB := Lib.hid (fun k hk => (HH.out.ops.lt k hk).2)
          have CC := Lib.hid (fun W => rcheck_any o.k o.c o.a o.b o.d pn HW0.out.1 HW0.out.2 W)
          obtain ⟨oo, hoo⟩ : ∃ oo : Cmd, (⟨o.k, o.c, o.a, o.b, o.d, pn⟩ : Cmd) = oo := ⟨_, rfl⟩
          have HOO := Lib.hid hoo
          rw [hoo] at CC HFin
          clear hoo HW0
          cases hok : okV oo with
          | false =>
            have hE : okE oo = 1 := by unfold okE; rw [hok]; rfl
            rw [hE] at CC
            have HF : Hid (none = R) := Lib.hid (by have h := HFin.out; rw [hok, if_neg (by decide)] at h; exact h)
            obtain rfl := HF.out
            clear HF HFin hE hok HRm HRr
            go_wp2_with (first | (go_at_call 116; refine (CPr.out _).mono ?_; rintro e w9 ⟨rfl, rfl⟩) | (go_at_call 117; refine (CC.out _).mono ?_; rintro e w9 ⟨rfl, hb9⟩))
            go_ret
            exact ⟨rfl, HB3.out.trans (hb9.mono (Nat.le_of_lt HR3f.out.lt))⟩
          | true =>
            have hE : okE oo = 0 := by unfold okE; rw [hok]; rfl
            rw [hE] at CC
            have HF : Hid (some (⟨ops ++ [oo], labs.zip plcs, gls⟩ : Rd) = R) := Lib.hid (by have h := HFin.out; rw [hok, if_pos rfl] at h; exact h)
            obtain rfl := HF.out
            obtain ⟨i0, hi0, hz0, hz1, hz2⟩ := info_parts infoOp
            clear HF HFin hE hok HRm HRr
            go_wp2_with (first | (go_at_call 116; refine (CPr.out _).mono ?_; rintro e w9 ⟨rfl, rfl⟩) | (go_at_call 117; refine (CC.out _).mono ?_; rintro e w9 ⟨rfl, hb9⟩; have HR9 := Lib.hid (HR3f.out.below hb9); have HO9 := Lib.hid (blk_below HO3.out hb9); have HB9 := Lib.hid (HB3.out.trans (hb9.mono (Nat.le_of_lt HR3f.out.lt)))))
            obtain ⟨Ao, co, hvo⟩ := own_slice HR9.out.ops
            rw [hvo] at HR9
            have HXk : Hid (∀ w4 w5 : World, Below w9.heap.size w9 w4 → w4.grownBy w5 (Value.slice Ao ops.length co).ownBlock → w5.heap[Xo]? = w9.heap[Xo]?) := Lib.hid fun w4 w5 hb hg => by
              have hlt : Xo < w9.heap.size := (Array.getElem?_eq_some_iff.1 HO9.out).1
              have hlo := HVB.out
              have hx := HXo.out
              rw [hg.block Xo (Nat.lt_of_lt_of_le hlt hb.size) (fun e => by have := hlo Xo (by rw [hvo]; exact e.symm); omega), hb.block Xo hlt]
            have hO9 := HO9.out
            rw [show (.cells #[.int .u8 o.k, .int .u8 o.c, .int .u8 o.a, .int .u8 o.b, .int .u8 o.d, .int .i64 pn] 79 (0, 0) : Obj) = .cells #[.int .u8 oo.k, .int .u8 oo.c, .int .u8 oo.a, .int .u8 oo.b, .int .u8 oo.d, .int .i64 oo.n] 79 (0, 0) by rw [← HOO.out]] at hO9
            have HO10 := Lib.hid hO9
            have HSa : Hid (∀ W, Below w9.heap.size w9 W → ApS RB Xo (.slice Ao ops.length co) oo W) := Lib.hid fun W hb => aps_of (cell_of (HR9.out.below hb).blk 0) (blk_below HO10.out hb)
            have HRo := Lib.hid (fun W (hb : Below w9.heap.size w9 W) => (HR9.out.below hb).ops)
            have HA := Lib.hid (fun (w4 w5 : World) (v' : Value) hb hg ho => HR9.out.appOps (w4 := w4) (w5 := w5) (v' := v') oo hb hg ho)
            have HBs : Hid (RB ≤ w9.heap.size) := Lib.hid (Nat.le_of_lt HR9.out.lt)
            clear hO9 hvo hb9 z0 z1 z2 z3 z4 z5 f5 y2
            go_wp2_with fail
            refine wp_region_L (l := 10) (S := (ApS RB Xo (.slice Ao ops.length co) oo)) (by kernel_rfl) ?_ (fun hHeld => ?_)
            · ((try dsimp only); (exact HSa.out _ (Below.refl _ _).drew))
            refine wpAnyL_take (i := 0) (oi := _) (v := ?v1) rfl (by kernel_rfl) (fun _ _ _ h => h) (by assumption) (Or.inl ⟨by kernel_rfl, ?y1⟩) ?r1
            case y1 => (intro w hSw; (try dsimp only at hSw); go_simp; all_goals with_reducible rfl)
            try simp only [List.getElem_toArray, List.getElem_cons_zero, List.getElem_cons_succ, Act.put, List.setIfInBounds_toArray, List.set_cons_zero, List.set_cons_succ]
            refine wpAnyL_take (i := 1) (oi := _) (v := ?v2) rfl (by kernel_rfl) (fun _ _ _ h => h) (by assumption) (Or.inl ⟨by kernel_rfl, ?y2⟩) ?r2
            case y2 => (intro w hSw; (try dsimp only at hSw); go_simp; all_goals with_reducible rfl)
            try simp only [List.getElem_toArray, List.getElem_cons_zero, List.getElem_cons_succ, Act.put, List.setIfInBounds_toArray, List.set_cons_zero, List.set_cons_succ]
            refine wpAnyL_take (i := 2) (oi := _) (v := ?v3) rfl (by kernel_rfl) (fun _ _ _ h => h) (by assumption) (Or.inl ⟨by kernel_rfl, ?y3⟩) ?r3
            case y3 => (intro w hSw; (try dsimp only at hSw); go_simp; all_goals with_reducible rfl)
            try simp only [List.getElem_toArray, List.getElem_cons_zero, List.getElem_cons_succ, Act.put, List.setIfInBounds_toArray, List.set_cons_zero, List.set_cons_succ]
            refine wpAnyL_take (i := 3) (oi := _) (v := ?v4) rfl (by kernel_rfl) (fun _ _ _ h => h) (by assumption) (Or.inl ⟨by kernel_rfl, ?y4⟩) ?r4
            case y4 => (intro w hSw; (try dsimp only at hSw); go_simp; all_goals with_reducible rfl)
            try simp only [List.getElem_toArray, List.getElem_cons_zero, List.getElem_cons_succ, Act.put, List.setIfInBounds_toArray, List.set_cons_zero, List.set_cons_succ]
            refine wpAnyL_take (i := 4) (oi := _) (v := ?v5) rfl (by kernel_rfl) (fun _ _ _ h => h) (by assumption) (Or.inl ⟨by kernel_rfl, ?y5⟩) ?r5
            case y5 => (intro w hSw; (try dsimp only at hSw); go_simp; all_goals with_reducible rfl)
            try simp only [List.getElem_toArray, List.getElem_cons_zero, List.getElem_cons_succ, Act.put, List.setIfInBounds_toArray, List.set_cons_zero, List.set_cons_succ]
            refine wpAnyL_take (i := 5) (oi := _) (v := ?v6) rfl (by kernel_rfl) (fun _ _ _ h => h) (by assumption) (Or.inl ⟨by kernel_rfl, ?y6⟩) ?r6
            case y6 => (intro w hSw; (try dsimp only at hSw); go_simp; all_goals with_reducible rfl)
            try simp only [List.getElem_toArray, List.getElem_cons_zero, List.getElem_cons_succ, Act.put, List.setIfInBounds_toArray, List.set_cons_zero, List.set_cons_succ]
            refine wpAnyL_step (j := 6) (o := _) (by kernel_rfl) rfl (fun K hK => ?_)
            (go_simp; have hB4 := Lib.hid (fun o => ((Below.refl w9.heap.size w9).drew).alloc (Nat.le_refl _) o))
            refine hK _ _ ?_ (fun hHeld => ?_)
            · ((try dsimp only); (exact HSa.out _ (hB4.out _)))
            clear hK K
            try simp only [List.getElem_toArray, List.getElem_cons_zero, List.getElem_cons_succ, Act.put, List.setIfInBounds_toArray, List.set_cons_zero, List.set_cons_succ]
            refine wpAnyL_step (j := 7) (o := _) (by kernel_rfl) rfl (fun K hK => ?_)
            (refine wp_append_own_at _ _ 22 rfl RB 79 i0 _ 6 16 Tryz.underlying22 hi0 hz0 hz1 hz2 rfl (by decide) (.slice Ao ops.length co) ops.length (ops.flatMap Cmd.cells) rfl (HRo.out _ (hB4.out _)) ⟨w9.heap.size, 0, none⟩ 1 1 oo.cells rfl rfl (World.news_of_block (heap_alloc_new w9.drew _)) (by simp [Cmd.cells, Value.oneCell']) (by have := HNum.out; unfold maxLen; omega) (by have := HNum.out; omega) (Nat.le_trans HBs.out (hB4.out _).size) ?_; intro v' w5 hown' hgrow hat; obtain ⟨gg, cp, rfl⟩ : ∃ gg cp, v' = .slice (some ⟨gg, 0, none⟩) (ops.length + 1) cp := (hown'.2.elim (fun h => absurd h.2 (by omega)) (fun ⟨gg, cp, cur, h, _⟩ => ⟨gg, cp, h⟩)); have hG := Lib.hid (HA.out _ _ _ (hB4.out _) hgrow hown'); have hXX := Lib.hid ((HXk.out _ _ (hB4.out _) hgrow).trans HO10.out); obtain ⟨⟨c0, f0⟩, -⟩ := hG.out; clear hown' hgrow hat)
            refine hK _ _ ?_ (fun hHeld => ?_)
            · ((try dsimp only); (exact aps_of hG.out.2.1.1 hXX.out))
            clear hK K
            try simp only [List.getElem_toArray, List.getElem_cons_zero, List.getElem_cons_succ, Act.put, List.setIfInBounds_toArray, List.set_cons_zero, List.set_cons_succ]
            refine wpAnyL_take (i := 8) (oi := _) (v := ?v9) rfl (by kernel_rfl) (fun _ _ _ h => h) (by assumption) (Or.inl ⟨by kernel_rfl, ?y9⟩) ?r9
            case y9 => (intro w hSw; (try dsimp only at hSw); go_simp; all_goals with_reducible rfl)
            try simp only [List.getElem_toArray, List.getElem_cons_zero, List.getElem_cons_succ, Act.put, List.setIfInBounds_toArray, List.set_cons_zero, List.set_cons_succ]
            refine wpAnyL_take (i := 9) (oi := _) (v := ?v10) rfl (by kernel_rfl) (fun _ _ _ h => h) (by assumption) (Or.inl ⟨by kernel_rfl, ?y10⟩) ?r10
            case y10 => (intro w hSw; (try dsimp only at hSw); go_simp; all_goals with_reducible rfl)
            try simp only [List.getElem_toArray, List.getElem_cons_zero, List.getElem_cons_succ, Act.put, List.setIfInBounds_toArray, List.set_cons_zero, List.set_cons_succ]
            refine wpAnyL_last (j := 10) (o := _) (by kernel_rfl) rfl (by rfl) (by kernel_rfl) (fun K hK => ?_)
            go_simp
            (refine hK _ _ ?_; clear hK K)
            try simp only [List.getElem_toArray, List.getElem_cons_zero, List.getElem_cons_succ, Act.put, List.setIfInBounds_toArray, List.set_cons_zero, List.set_cons_succ]
            have hR5 := Lib.hid hG.out.2.2.1
            have hB5 := Lib.hid hG.out.2.2.2
            clear hG HSa HRo HA hB4 c0 f0 hHeld hi0 hz0 hz1 hz2 hXX HXk
            go_wp2_with fail
            go_ret
            exact ⟨⟨rfl, _, _, hR5.out⟩, HB9.out.trans hB5.out⟩
        · rw [hpn] at CPr hrun3
          have hrun3 : Hid ((if pl = 108 ∧ labelB x = true then runParts o q ([] ++ [x]) [] [] else none) = R0) := Lib.hid (by have h := hrun3.out; rw [if_neg (by decide)] at h; exact h)
          by_cases hjj : jump = true
          · have hp8 := HPl.out.1 hjj
            rcases jump_kinds (HJ.out.symm.trans hjj).symm with h6 | h7
            · skip
              have t1 : (o.k == 6) = true := by rw [ho.out.1]; exact (by rw [h6]; rfl)
              have t2 : (o.k == 7) = false := by rw [ho.out.1]; exact (by rw [h6]; rfl)
              cases hlb : labelB x with
              | false =>
                rw [hlb] at CL
                have HF : Hid (none = R) := Lib.hid (by
                  have h := HRm.out
                  rw [← hrun3.out, if_neg (fun h => by rw [hlb] at h; exact absurd h.2 (by decide))] at h
                  exact h.trans HRr.out)
                obtain rfl := HF.out
                clear HF HRr HRm hrun3
                go_wp2_with (first | (go_at_call 116; refine (CPr.out _).mono ?_; rintro e w9 ⟨rfl, rfl⟩) | (go_at_call 111; refine (CL.out _).mono ?_; rintro e w10 ⟨rfl, rfl⟩))
                go_ret
                exact ⟨rfl, HB8.out⟩
              | true =>
                rw [hlb] at CL
                have HFin : Hid ((if okV ⟨o.k, o.c, o.a, o.b, o.d, 0⟩ = true then some (⟨ops ++ [⟨o.k, o.c, o.a, o.b, o.d, 0⟩], labs.zip plcs, gls ++ [(ops.length, line, x)]⟩ : Rd) else none) = R) := Lib.hid (by
                  have h := HRm.out
                  rw [← hrun3.out, if_pos ⟨hp8, hlb⟩, runParts_nil] at h
                  have h2 := h.trans HRr.out
                  rw [show (⟨o.k, o.c, o.a, o.b, o.d, 0⟩ : Cmd) = o by rw [← ho.out.2.2]]
                  simpa [insEnd] using h2)
                have HW0 : Hid (0 ≤ o.c ∧ -9223372036854775808 ≤ (0 : Int) ∧ (0 : Int) ≤ 9223372036854775807) := Lib.hid (by rw [ho.out.2.1]; exact ⟨Int.le_refl 0, by decide⟩)
                obtain ⟨j0, hj0, hy0, hy1, hy2⟩ := info_parts rinfoGoal
                obtain ⟨Ag, cg, hvg⟩ := own_slice HR8.out.gls
                obtain ⟨Ap, cp0, hvo⟩ := own_slice HR8.out.ops
                have HR8b := Lib.hid HR8.out
                rw [hvg, hvo] at HR8b
                have HSg : Hid (∀ W, Below w8.heap.size w8 W → RgS RB Wb (1 + q) (.slice Ap ops.length cp0) (.slice Ag gls.length cg) x W) := Lib.hid fun W hb => ⟨cell_of (HR8b.out.below hb).blk 0, cell_of (HR8b.out.below hb).blk 3, HWc.out W (HI8.out.bel.trans (hb.mono HI8.out.bel.size)) (1 + q) x hxat.out⟩
                have HRo := Lib.hid (fun W (hb : Below w8.heap.size w8 W) => (HR8b.out.below hb).gls)
                have HA := Lib.hid (fun (w4 w5 : World) (v' : Value) hb hg ho => HR8b.out.appGls (w4 := w4) (w5 := w5) (v' := v') (ops.length, line, x) hb hg ho)
                have HXk : Hid (∀ w4 w5 : World, Below w8.heap.size w8 w4 → w4.grownBy w5 (Value.slice Ag gls.length cg).ownBlock → w5.heap[Xo]? = w8.heap[Xo]? ∧ w5.cell? ⟨Wb, 1 + q, none⟩ = some (.string ⟨x.toArray⟩)) := Lib.hid fun w4 w5 hb hg => by
                  have hlt : Xo < w8.heap.size := (Array.getElem?_eq_some_iff.1 HO8.out).1
                  have hlo := fun k hk => (HH.out.gls.lt k hk).2
                  have hx := HXo.out
                  refine ⟨?_, HWg.out w4 w5 (HI8.out.bel.trans (hb.mono HI8.out.bel.size)) (by rw [hvg]; exact hg) (1 + q) x hxat.out⟩
                  rw [hg.block Xo (Nat.lt_of_lt_of_le hlt hb.size) (fun e => by have := hlo Xo (by rw [hvg]; exact e.symm); omega), hb.block Xo hlt]
                have HBs : Hid (RB ≤ w8.heap.size) := Lib.hid (Nat.le_of_lt HR8.out.lt)
                have HRO : Hid (RB ≠ Xo ∧ Xo ≠ RB) := Lib.hid (by have h1 := HH.out.lt; have h2 := HXo.out; omega)
                have HVo := Lib.hid hvo
                clear hlb hrun3 hvg hvo
                go_wp2_with (first | (go_at_call 116; refine (CPr.out _).mono ?_; rintro e w9 ⟨rfl, rfl⟩) | (go_at_call 111; refine (CL.out _).mono ?_; rintro e w10 ⟨rfl, rfl⟩))
                clear z0 z1 z2 z3 z4 z5 f5 y2 hwx
                have htn : ((1 : Int) + (q : Int)).toNat = 1 + q := by omega
                refine wp_region_L (l := 20) (S := (RgS RB Wb (1 + q) (.slice Ap ops.length cp0) (.slice Ag gls.length cg) x)) (by kernel_rfl) ?_ (fun hHeld => ?_)
                · ((try dsimp only); (exact HSg.out _ (Below.refl _ _).drew))
                refine wpAnyL_take (i := 0) (oi := _) (v := ?v12) rfl (by kernel_rfl) (fun _ _ _ h => h) (by assumption) (Or.inl ⟨by kernel_rfl, ?y12⟩) ?r12
                case y12 => (intro w hSw; (try dsimp only at hSw); go_simp; all_goals with_reducible rfl)
                try simp only [List.getElem_toArray, List.getElem_cons_zero, List.getElem_cons_succ, Act.put, List.setIfInBounds_toArray, List.set_cons_zero, List.set_cons_succ]
                refine wpAnyL_take (i := 1) (oi := _) (v := ?v13) rfl (by kernel_rfl) (fun _ _ _ h => h) (by assumption) (Or.inl ⟨by kernel_rfl, ?y13⟩) ?r13
                case y13 => (intro w hSw; (try dsimp only at hSw); go_simp; all_goals with_reducible rfl)
                try simp only [List.getElem_toArray, List.getElem_cons_zero, List.getElem_cons_succ, Act.put, List.setIfInBounds_toArray, List.set_cons_zero, List.set_cons_succ]
                refine wpAnyL_take (i := 2) (oi := _) (v := ?v14) rfl (by kernel_rfl) (fun _ _ _ h => h) (by assumption) (Or.inl ⟨by kernel_rfl, ?y14⟩) ?r14
                case y14 => (intro w hSw; (try dsimp only at hSw); go_simp; all_goals with_reducible rfl)
                try simp only [List.getElem_toArray, List.getElem_cons_zero, List.getElem_cons_succ, Act.put, List.setIfInBounds_toArray, List.set_cons_zero, List.set_cons_succ]
                refine wpAnyL_take (i := 3) (oi := _) (v := ?v15) rfl (by kernel_rfl) (fun _ _ _ h => h) (by assumption) (Or.inl ⟨by kernel_rfl, ?y15⟩) ?r15
                case y15 => (intro w hSw; (try dsimp only at hSw); go_simp; all_goals with_reducible rfl)
                try simp only [List.getElem_toArray, List.getElem_cons_zero, List.getElem_cons_succ, Act.put, List.setIfInBounds_toArray, List.set_cons_zero, List.set_cons_succ]
                refine wpAnyL_take (i := 4) (oi := _) (v := ?v16) rfl (by kernel_rfl) (fun _ _ _ h => h) (by assumption) (Or.inl ⟨by kernel_rfl, ?y16⟩) ?r16
                case y16 => (intro w hSw; (try dsimp only at hSw); go_simp; all_goals with_reducible rfl)
                try simp only [List.getElem_toArray, List.getElem_cons_zero, List.getElem_cons_succ, Act.put, List.setIfInBounds_toArray, List.set_cons_zero, List.set_cons_succ]
                refine wpAnyL_take (i := 5) (oi := _) (v := ?v17) rfl (by kernel_rfl) (fun _ _ _ h => h) (by assumption) (Or.inl ⟨by kernel_rfl, ?y17⟩) ?r17
                case y17 => (intro w hSw; (try dsimp only at hSw); go_simp; all_goals with_reducible rfl)
                try simp only [List.getElem_toArray, List.getElem_cons_zero, List.getElem_cons_succ, Act.put, List.setIfInBounds_toArray, List.set_cons_zero, List.set_cons_succ]
                refine wpAnyL_take (i := 6) (oi := _) (v := ?v18) rfl (by kernel_rfl) (fun _ _ _ h => h) (by assumption) (Or.inl ⟨by kernel_rfl, ?y18⟩) ?r18
                case y18 => (intro w hSw; (try dsimp only at hSw); go_simp; all_goals with_reducible rfl)
                try simp only [List.getElem_toArray, List.getElem_cons_zero, List.getElem_cons_succ, Act.put, List.setIfInBounds_toArray, List.set_cons_zero, List.set_cons_succ]
                refine wpAnyL_take (i := 7) (oi := _) (v := ?v19) rfl (by kernel_rfl) (fun _ _ _ h => h) (by assumption) (Or.inl ⟨by kernel_rfl, ?y19⟩) ?r19
                case y19 => (intro w hSw; (try dsimp only at hSw); go_simp; all_goals with_reducible rfl)
                try simp only [List.getElem_toArray, List.getElem_cons_zero, List.getElem_cons_succ, Act.put, List.setIfInBounds_toArray, List.set_cons_zero, List.set_cons_succ]
                refine wpAnyL_take (i := 8) (oi := _) (v := ?v20) rfl (by kernel_rfl) (fun _ _ _ h => h) (by assumption) (Or.inl ⟨by kernel_rfl, ?y20⟩) ?r20
                case y20 => (intro w hSw; (try dsimp only at hSw); go_simp; all_goals with_reducible rfl)
                try simp only [List.getElem_toArray, List.getElem_cons_zero, List.getElem_cons_succ, Act.put, List.setIfInBounds_toArray, List.set_cons_zero, List.set_cons_succ]
                refine wpAnyL_take (i := 9) (oi := _) (v := ?v21) rfl (by kernel_rfl) (fun _ _ _ h => h) (by assumption) (Or.inl ⟨by kernel_rfl, ?y21⟩) ?r21
                case y21 => (intro w hSw; (try dsimp only at hSw); go_simp; all_goals with_reducible rfl)
                try simp only [List.getElem_toArray, List.getElem_cons_zero, List.getElem_cons_succ, Act.put, List.setIfInBounds_toArray, List.set_cons_zero, List.set_cons_succ]
                refine wpAnyL_take (i := 10) (oi := _) (v := ?v22) rfl (by kernel_rfl) (fun _ _ _ h => h) (by assumption) (Or.inl ⟨by kernel_rfl, ?y22⟩) ?r22
                case y22 => (intro w hSw; (try dsimp only at hSw); go_simp; all_goals with_reducible rfl)
                try simp only [List.getElem_toArray, List.getElem_cons_zero, List.getElem_cons_succ, Act.put, List.setIfInBounds_toArray, List.set_cons_zero, List.set_cons_succ]
                refine wpAnyL_take (i := 11) (oi := _) (v := ?v23) rfl (by kernel_rfl) (fun _ _ _ h => h) (by assumption) (Or.inl ⟨by kernel_rfl, ?y23⟩) ?r23
                case y23 => (intro w hSw; (try dsimp only at hSw); go_simp; all_goals with_reducible rfl)
                try simp only [List.getElem_toArray, List.getElem_cons_zero, List.getElem_cons_succ, Act.put, List.setIfInBounds_toArray, List.set_cons_zero, List.set_cons_succ]
                refine wpAnyL_take (i := 12) (oi := _) (v := ?v24) rfl (by kernel_rfl) (fun _ _ _ h => h) (by assumption) (Or.inl ⟨by kernel_rfl, ?y24⟩) ?r24
                case y24 => (intro w hSw; (try dsimp only at hSw); go_simp; all_goals with_reducible rfl)
                try simp only [List.getElem_toArray, List.getElem_cons_zero, List.getElem_cons_succ, Act.put, List.setIfInBounds_toArray, List.set_cons_zero, List.set_cons_succ]
                refine wpAnyL_take (i := 13) (oi := _) (v := ?v25) rfl (by kernel_rfl) (fun _ _ _ h => h) (by assumption) (Or.inl ⟨by kernel_rfl, ?y25⟩) ?r25
                case y25 => (intro w hSw; (try dsimp only at hSw); go_simp; all_goals with_reducible rfl)
                try simp only [List.getElem_toArray, List.getElem_cons_zero, List.getElem_cons_succ, Act.put, List.setIfInBounds_toArray, List.set_cons_zero, List.set_cons_succ]
                refine wpAnyL_take (i := 14) (oi := _) (v := ?v26) rfl (by kernel_rfl) (fun _ _ _ h => h) (by assumption) (Or.inl ⟨by kernel_rfl, ?y26⟩) ?r26
                case y26 => (intro w hSw; (try dsimp only at hSw); go_simp; all_goals with_reducible rfl)
                try simp only [List.getElem_toArray, List.getElem_cons_zero, List.getElem_cons_succ, Act.put, List.setIfInBounds_toArray, List.set_cons_zero, List.set_cons_succ]
                refine wpAnyL_take (i := 15) (oi := _) (v := ?v27) rfl (by kernel_rfl) (fun _ _ _ h => h) (by assumption) (Or.inl ⟨by kernel_rfl, ?y27⟩) ?r27
                case y27 => (intro w hSw; (try dsimp only at hSw); go_simp; all_goals with_reducible rfl)
                try simp only [List.getElem_toArray, List.getElem_cons_zero, List.getElem_cons_succ, Act.put, List.setIfInBounds_toArray, List.set_cons_zero, List.set_cons_succ]
                refine wpAnyL_step (j := 16) (o := _) (by kernel_rfl) rfl (fun K hK => ?_)
                (go_simp; have hB4 := Lib.hid (fun o => ((Below.refl w8.heap.size w8).drew).alloc (Nat.le_refl _) o))
                refine hK _ _ ?_ (fun hHeld => ?_)
                · ((try dsimp only); (exact HSg.out _ (hB4.out _)))
                clear hK K
                try simp only [List.getElem_toArray, List.getElem_cons_zero, List.getElem_cons_succ, Act.put, List.setIfInBounds_toArray, List.set_cons_zero, List.set_cons_succ]
                refine wpAnyL_step (j := 17) (o := _) (by kernel_rfl) rfl (fun K hK => ?_)
                (refine wp_append_own_at _ _ 84 rfl RB 92 j0 _ 3 32 Tryz.underlying84 hj0 hy0 hy1 hy2 rfl (by decide) (.slice Ag gls.length cg) gls.length (gls.flatMap rgoalCells) rfl (HRo.out _ (hB4.out _)) ⟨w8.heap.size, 0, none⟩ 1 1 (rgoalCells (ops.length, line, x)) rfl rfl (World.news_of_block (heap_alloc_new w8.drew _)) (by simp [rgoalCells, Value.oneCell']) (by have := HNum.out; unfold maxLen; omega) (by have := HNum.out; omega) (Nat.le_trans HBs.out (hB4.out _).size) ?_; intro v' w5 hown' hgrow hat; obtain ⟨gg, cp, rfl⟩ : ∃ gg cp, v' = .slice (some ⟨gg, 0, none⟩) (gls.length + 1) cp := (hown'.2.elim (fun h => absurd h.2 (by omega)) (fun ⟨gg, cp, cur, h, _⟩ => ⟨gg, cp, h⟩)); have hG := Lib.hid (HA.out _ _ _ (hB4.out _) hgrow hown'); have hXX := Lib.hid (HXk.out _ _ (hB4.out _) hgrow); obtain ⟨⟨c0, f0⟩, -⟩ := hG.out; clear hown' hgrow hat)
                refine hK _ _ ?_ (fun hHeld => ?_)
                · ((try dsimp only); (exact ⟨hG.out.2.1.1, hG.out.2.1.2.2.2, hXX.out.2⟩))
                clear hK K
                try simp only [List.getElem_toArray, List.getElem_cons_zero, List.getElem_cons_succ, Act.put, List.setIfInBounds_toArray, List.set_cons_zero, List.set_cons_succ]
                refine wpAnyL_take (i := 18) (oi := _) (v := ?v30) rfl (by kernel_rfl) (fun _ _ _ h => h) (by assumption) (Or.inl ⟨by kernel_rfl, ?y30⟩) ?r30
                case y30 => (intro w hSw; (try dsimp only at hSw); go_simp; all_goals with_reducible rfl)
                try simp only [List.getElem_toArray, List.getElem_cons_zero, List.getElem_cons_succ, Act.put, List.setIfInBounds_toArray, List.set_cons_zero, List.set_cons_succ]
                refine wpAnyL_take (i := 19) (oi := _) (v := ?v31) rfl (by kernel_rfl) (fun _ _ _ h => h) (by assumption) (Or.inl ⟨by kernel_rfl, ?y31⟩) ?r31
                case y31 => (intro w hSw; (try dsimp only at hSw); go_simp; all_goals with_reducible rfl)
                try simp only [List.getElem_toArray, List.getElem_cons_zero, List.getElem_cons_succ, Act.put, List.setIfInBounds_toArray, List.set_cons_zero, List.set_cons_succ]
                refine wpAnyL_last (j := 20) (o := _) (by kernel_rfl) rfl (by rfl) (by kernel_rfl) (fun K hK => ?_)
                go_simp
                (refine hK _ _ ?_; clear hK K)
                try simp only [List.getElem_toArray, List.getElem_cons_zero, List.getElem_cons_succ, Act.put, List.setIfInBounds_toArray, List.set_cons_zero, List.set_cons_succ]
                have hR5 := Lib.hid hG.out.2.2.1
                have hB5 := Lib.hid (HB8.out.trans hG.out.2.2.2)
                have HO5 := Lib.hid (blk_set_ne (hXX.out.1.trans HO8.out) HRO.out.2 3 (.slice (some ⟨gg, 0, none⟩) (gls.length + 1) cp))
                clear hG HSg HRo HA hB4 c0 f0 hHeld hj0 hy0 hy1 hy2 hXX HXk
                obtain ⟨w6, hw6⟩ : ∃ w6, w5.setCell ⟨RB, 3, none⟩ (.slice (some ⟨gg, 0, none⟩) (gls.length + 1) cp) = w6 := ⟨_, rfl⟩
                rw [hw6] at hR5 hB5 HO5 ⊢
                clear hw6
                have z0 := cell_of HO5.out 0
                have z1 := cell_of HO5.out 1
                have z2 := cell_of HO5.out 2
                have z3 := cell_of HO5.out 3
                have z4 := cell_of HO5.out 4
                have z5 := cell_of HO5.out 5
                have f5 := frz_of HO5.out 5
                have y2 := trivial
                simp only [List.getElem?_toArray, List.getElem?_cons_zero, List.getElem?_cons_succ] at z0 z1 z2 z3 z4 z5
                have HO3 : Hid ((w6.setCell ⟨Xo, 5, none⟩ (.int .i64 0)).heap[Xo]? = some (.cells #[.int .u8 o.k, .int .u8 o.c, .int .u8 o.a, .int .u8 o.b, .int .u8 o.d, .int .i64 0] 79 (0, 0))) := Lib.hid (by have := blk_set HO5.out 5 (.int .i64 0); simpa using this)
                have HR3f := Lib.hid (hR5.out.setO (fun k hk => Nat.lt_of_lt_of_le (HH.out.ops.lt k (by rw [HVo.out]; exact hk)).2 HXo.out) HO5.out HRO.out.1 5 (.int .i64 0))
                have HB3 := Lib.hid (hB5.out.setCell (p := ⟨Xo, 5, none⟩) (by have h1 := HH.out.lt; have h2 := HXo.out; show RB ≤ Xo; omega) (.int .i64 0))
                have HVB := Lib.hid (fun k (hk : (Value.slice Ap ops.length cp0).ownBlock = some k) => (HH.out.ops.lt k (by rw [HVo.out]; exact hk)).2)
                have CC := Lib.hid (fun W => rcheck_any o.k o.c o.a o.b o.d 0 HW0.out.1 HW0.out.2 W)
                obtain ⟨oo, hoo⟩ : ∃ oo : Cmd, (⟨o.k, o.c, o.a, o.b, o.d, 0⟩ : Cmd) = oo := ⟨_, rfl⟩
                have HOO := Lib.hid hoo
                rw [hoo] at CC HFin
                clear hoo HW0
                cases hok : okV oo with
                | false =>
                  have hE : okE oo = 1 := by unfold okE; rw [hok]; rfl
                  rw [hE] at CC
                  have HF : Hid (none = R) := Lib.hid (by have h := HFin.out; rw [hok, if_neg (by decide)] at h; exact h)
                  obtain rfl := HF.out
                  clear HF HFin hE hok HRm HRr
                  go_wp2_with (first | (fail) | (go_at_call 117; refine (CC.out _).mono ?_; rintro e w9 ⟨rfl, hb9⟩))
                  go_ret
                  exact ⟨rfl, HB3.out.trans (hb9.mono (Nat.le_of_lt HR3f.out.lt))⟩
                | true =>
                  have hE : okE oo = 0 := by unfold okE; rw [hok]; rfl
                  rw [hE] at CC
                  have HF : Hid (some (⟨ops ++ [oo], labs.zip plcs, (gls ++ [(ops.length, line, x)])⟩ : Rd) = R) := Lib.hid (by have h := HFin.out; rw [hok, if_pos rfl] at h; exact h)
                  obtain rfl := HF.out
                  obtain ⟨i0, hi0, hz0, hz1, hz2⟩ := info_parts infoOp
                  clear HF HFin hE hok HRm HRr
                  go_wp2_with (first | (fail) | (go_at_call 117; refine (CC.out _).mono ?_; rintro e w9 ⟨rfl, hb9⟩; have HR9 := Lib.hid (HR3f.out.below hb9); have HO9 := Lib.hid (blk_below HO3.out hb9); have HB9 := Lib.hid (HB3.out.trans (hb9.mono (Nat.le_of_lt HR3f.out.lt)))))
                  obtain ⟨Ao, co, hvo⟩ := own_slice HR9.out.ops
                  rw [hvo] at HR9
                  have HXk : Hid (∀ w4 w5 : World, Below w9.heap.size w9 w4 → w4.grownBy w5 (Value.slice Ao ops.length co).ownBlock → w5.heap[Xo]? = w9.heap[Xo]?) := Lib.hid fun w4 w5 hb hg => by
                    have hlt : Xo < w9.heap.size := (Array.getElem?_eq_some_iff.1 HO9.out).1
                    have hlo := HVB.out
                    have hx := HXo.out
                    rw [hg.block Xo (Nat.lt_of_lt_of_le hlt hb.size) (fun e => by have := hlo Xo (by rw [hvo]; exact e.symm); omega), hb.block Xo hlt]
                  have hO9 := HO9.out
                  rw [show (.cells #[.int .u8 o.k, .int .u8 o.c, .int .u8 o.a, .int .u8 o.b, .int .u8 o.d, .int .i64 0] 79 (0, 0) : Obj) = .cells #[.int .u8 oo.k, .int .u8 oo.c, .int .u8 oo.a, .int .u8 oo.b, .int .u8 oo.d, .int .i64 oo.n] 79 (0, 0) by rw [← HOO.out]] at hO9
                  have HO10 := Lib.hid hO9
                  have HSa : Hid (∀ W, Below w9.heap.size w9 W → ApS RB Xo (.slice Ao ops.length co) oo W) := Lib.hid fun W hb => aps_of (cell_of (HR9.out.below hb).blk 0) (blk_below HO10.out hb)
                  have HRo := Lib.hid (fun W (hb : Below w9.heap.size w9 W) => (HR9.out.below hb).ops)
                  have HA := Lib.hid (fun (w4 w5 : World) (v' : Value) hb hg ho => HR9.out.appOps (w4 := w4) (w5 := w5) (v' := v') oo hb hg ho)
                  have HBs : Hid (RB ≤ w9.heap.size) := Lib.hid (Nat.le_of_lt HR9.out.lt)
                  clear hO9 hvo hb9 z0 z1 z2 z3 z4 z5 f5 y2
                  go_wp2_with fail
                  refine wp_region_L (l := 10) (S := (ApS RB Xo (.slice Ao ops.length co) oo)) (by kernel_rfl) ?_ (fun hHeld => ?_)
                  · ((try dsimp only); (exact HSa.out _ (Below.refl _ _).drew))
                  refine wpAnyL_take (i := 0) (oi := _) (v := ?v33) rfl (by kernel_rfl) (fun _ _ _ h => h) (by assumption) (Or.inl ⟨by kernel_rfl, ?y33⟩) ?r33
                  case y33 => (intro w hSw; (try dsimp only at hSw); go_simp; all_goals with_reducible rfl)
                  try simp only [List.getElem_toArray, List.getElem_cons_zero, List.getElem_cons_succ, Act.put, List.setIfInBounds_toArray, List.set_cons_zero, List.set_cons_succ]
                  refine wpAnyL_take (i := 1) (oi := _) (v := ?v34) rfl (by kernel_rfl) (fun _ _ _ h => h) (by assumption) (Or.inl ⟨by kernel_rfl, ?y34⟩) ?r34
                  case y34 => (intro w hSw; (try dsimp only at hSw); go_simp; all_goals with_reducible rfl)
                  try simp only [List.getElem_toArray, List.getElem_cons_zero, List.getElem_cons_succ, Act.put, List.setIfInBounds_toArray, List.set_cons_zero, List.set_cons_succ]
                  refine wpAnyL_take (i := 2) (oi := _) (v := ?v35) rfl (by kernel_rfl) (fun _ _ _ h => h) (by assumption) (Or.inl ⟨by kernel_rfl, ?y35⟩) ?r35
                  case y35 => (intro w hSw; (try dsimp only at hSw); go_simp; all_goals with_reducible rfl)
                  try simp only [List.getElem_toArray, List.getElem_cons_zero, List.getElem_cons_succ, Act.put, List.setIfInBounds_toArray, List.set_cons_zero, List.set_cons_succ]
                  refine wpAnyL_take (i := 3) (oi := _) (v := ?v36) rfl (by kernel_rfl) (fun _ _ _ h => h) (by assumption) (Or.inl ⟨by kernel_rfl, ?y36⟩) ?r36
                  case y36 => (intro w hSw; (try dsimp only at hSw); go_simp; all_goals with_reducible rfl)
                  try simp only [List.getElem_toArray, List.getElem_cons_zero, List.getElem_cons_succ, Act.put, List.setIfInBounds_toArray, List.set_cons_zero, List.set_cons_succ]
                  refine wpAnyL_take (i := 4) (oi := _) (v := ?v37) rfl (by kernel_rfl) (fun _ _ _ h => h) (by assumption) (Or.inl ⟨by kernel_rfl, ?y37⟩) ?r37
                  case y37 => (intro w hSw; (try dsimp only at hSw); go_simp; all_goals with_reducible rfl)
                  try simp only [List.getElem_toArray, List.getElem_cons_zero, List.getElem_cons_succ, Act.put, List.setIfInBounds_toArray, List.set_cons_zero, List.set_cons_succ]
                  refine wpAnyL_take (i := 5) (oi := _) (v := ?v38) rfl (by kernel_rfl) (fun _ _ _ h => h) (by assumption) (Or.inl ⟨by kernel_rfl, ?y38⟩) ?r38
                  case y38 => (intro w hSw; (try dsimp only at hSw); go_simp; all_goals with_reducible rfl)
                  try simp only [List.getElem_toArray, List.getElem_cons_zero, List.getElem_cons_succ, Act.put, List.setIfInBounds_toArray, List.set_cons_zero, List.set_cons_succ]
                  refine wpAnyL_step (j := 6) (o := _) (by kernel_rfl) rfl (fun K hK => ?_)
                  (go_simp; have hB4 := Lib.hid (fun o => ((Below.refl w9.heap.size w9).drew).alloc (Nat.le_refl _) o))
                  refine hK _ _ ?_ (fun hHeld => ?_)
                  · ((try dsimp only); (exact HSa.out _ (hB4.out _)))
                  clear hK K
                  try simp only [List.getElem_toArray, List.getElem_cons_zero, List.getElem_cons_succ, Act.put, List.setIfInBounds_toArray, List.set_cons_zero, List.set_cons_succ]
                  refine wpAnyL_step (j := 7) (o := _) (by kernel_rfl) rfl (fun K hK => ?_)
                  (refine wp_append_own_at _ _ 22 rfl RB 79 i0 _ 6 16 Tryz.underlying22 hi0 hz0 hz1 hz2 rfl (by decide) (.slice Ao ops.length co) ops.length (ops.flatMap Cmd.cells) rfl (HRo.out _ (hB4.out _)) ⟨w9.heap.size, 0, none⟩ 1 1 oo.cells rfl rfl (World.news_of_block (heap_alloc_new w9.drew _)) (by simp [Cmd.cells, Value.oneCell']) (by have := HNum.out; unfold maxLen; omega) (by have := HNum.out; omega) (Nat.le_trans HBs.out (hB4.out _).size) ?_; intro v' w5 hown' hgrow hat; obtain ⟨gg, cp, rfl⟩ : ∃ gg cp, v' = .slice (some ⟨gg, 0, none⟩) (ops.length + 1) cp := (hown'.2.elim (fun h => absurd h.2 (by omega)) (fun ⟨gg, cp, cur, h, _⟩ => ⟨gg, cp, h⟩)); have hG := Lib.hid (HA.out _ _ _ (hB4.out _) hgrow hown'); have hXX := Lib.hid ((HXk.out _ _ (hB4.out _) hgrow).trans HO10.out); obtain ⟨⟨c0, f0⟩, -⟩ := hG.out; clear hown' hgrow hat)
                  refine hK _ _ ?_ (fun hHeld => ?_)
                  · ((try dsimp only); (exact aps_of hG.out.2.1.1 hXX.out))
                  clear hK K
                  try simp only [List.getElem_toArray, List.getElem_cons_zero, List.getElem_cons_succ, Act.put, List.setIfInBounds_toArray, List.set_cons_zero, List.set_cons_succ]
                  refine wpAnyL_take (i := 8) (oi := _) (v := ?v41) rfl (by kernel_rfl) (fun _ _ _ h => h) (by assumption) (Or.inl ⟨by kernel_rfl, ?y41⟩) ?r41
                  case y41 => (intro w hSw; (try dsimp only at hSw); go_simp; all_goals with_reducible rfl)
                  try simp only [List.getElem_toArray, List.getElem_cons_zero, List.getElem_cons_succ, Act.put, List.setIfInBounds_toArray, List.set_cons_zero, List.set_cons_succ]
                  refine wpAnyL_take (i := 9) (oi := _) (v := ?v42) rfl (by kernel_rfl) (fun _ _ _ h => h) (by assumption) (Or.inl ⟨by kernel_rfl, ?y42⟩) ?r42
                  case y42 => (intro w hSw; (try dsimp only at hSw); go_simp; all_goals with_reducible rfl)
                  try simp only [List.getElem_toArray, List.getElem_cons_zero, List.getElem_cons_succ, Act.put, List.setIfInBounds_toArray, List.set_cons_zero, List.set_cons_succ]
                  refine wpAnyL_last (j := 10) (o := _) (by kernel_rfl) rfl (by rfl) (by kernel_rfl) (fun K hK => ?_)
                  go_simp
                  (refine hK _ _ ?_; clear hK K)
                  try simp only [List.getElem_toArray, List.getElem_cons_zero, List.getElem_cons_succ, Act.put, List.setIfInBounds_toArray, List.set_cons_zero, List.set_cons_succ]
                  have hR5 := Lib.hid hG.out.2.2.1
                  have hB5 := Lib.hid hG.out.2.2.2
                  clear hG HSa HRo HA hB4 c0 f0 hHeld hi0 hz0 hz1 hz2 hXX HXk
                  go_wp2_with fail
                  go_ret
                  exact ⟨⟨rfl, _, _, hR5.out⟩, HB9.out.trans hB5.out⟩
            · skip
              have t1 : (o.k == 6) = false := by rw [ho.out.1]; exact (by rw [h7]; rfl)
              have t2 : (o.k == 7) = true := by rw [ho.out.1]; exact (by rw [h7]; rfl)
              cases hlb : labelB x with
              | false =>
                rw [hlb] at CL
                have HF : Hid (none = R) := Lib.hid (by
                  have h := HRm.out
                  rw [← hrun3.out, if_neg (fun h => by rw [hlb] at h; exact absurd h.2 (by decide))] at h
                  exact h.trans HRr.out)
                obtain rfl := HF.out
                clear HF HRr HRm hrun3
                go_wp2_with (first | (go_at_call 116; refine (CPr.out _).mono ?_; rintro e w9 ⟨rfl, rfl⟩) | (go_at_call 111; refine (CL.out _).mono ?_; rintro e w10 ⟨rfl, rfl⟩))
                go_ret
                exact ⟨rfl, HB8.out⟩
              | true =>
                rw [hlb] at CL
                have HFin : Hid ((if okV ⟨o.k, o.c, o.a, o.b, o.d, 0⟩ = true then some (⟨ops ++ [⟨o.k, o.c, o.a, o.b, o.d, 0⟩], labs.zip plcs, gls ++ [(ops.length, line, x)]⟩ : Rd) else none) = R) := Lib.hid (by
                  have h := HRm.out
                  rw [← hrun3.out, if_pos ⟨hp8, hlb⟩, runParts_nil] at h
                  have h2 := h.trans HRr.out
                  rw [show (⟨o.k, o.c, o.a, o.b, o.d, 0⟩ : Cmd) = o by rw [← ho.out.2.2]]
                  simpa [insEnd] using h2)
                have HW0 : Hid (0 ≤ o.c ∧ -9223372036854775808 ≤ (0 : Int) ∧ (0 : Int) ≤ 9223372036854775807) := Lib.hid (by rw [ho.out.2.1]; exact ⟨Int.le_refl 0, by decide⟩)
                obtain ⟨j0, hj0, hy0, hy1, hy2⟩ := info_parts rinfoGoal
                obtain ⟨Ag, cg, hvg⟩ := own_slice HR8.out.gls
                obtain ⟨Ap, cp0, hvo⟩ := own_slice HR8.out.ops
                have HR8b := Lib.hid HR8.out
                rw [hvg, hvo] at HR8b
                have HSg : Hid (∀ W, Below w8.heap.size w8 W → RgS RB Wb (1 + q) (.slice Ap ops.length cp0) (.slice Ag gls.length cg) x W) := Lib.hid fun W hb => ⟨cell_of (HR8b.out.below hb).blk 0, cell_of (HR8b.out.below hb).blk 3, HWc.out W (HI8.out.bel.trans (hb.mono HI8.out.bel.size)) (1 + q) x hxat.out⟩
                have HRo := Lib.hid (fun W (hb : Below w8.heap.size w8 W) => (HR8b.out.below hb).gls)
                have HA := Lib.hid (fun (w4 w5 : World) (v' : Value) hb hg ho => HR8b.out.appGls (w4 := w4) (w5 := w5) (v' := v') (ops.length, line, x) hb hg ho)
                have HXk : Hid (∀ w4 w5 : World, Below w8.heap.size w8 w4 → w4.grownBy w5 (Value.slice Ag gls.length cg).ownBlock → w5.heap[Xo]? = w8.heap[Xo]? ∧ w5.cell? ⟨Wb, 1 + q, none⟩ = some (.string ⟨x.toArray⟩)) := Lib.hid fun w4 w5 hb hg => by
                  have hlt : Xo < w8.heap.size := (Array.getElem?_eq_some_iff.1 HO8.out).1
                  have hlo := fun k hk => (HH.out.gls.lt k hk).2
                  have hx := HXo.out
                  refine ⟨?_, HWg.out w4 w5 (HI8.out.bel.trans (hb.mono HI8.out.bel.size)) (by rw [hvg]; exact hg) (1 + q) x hxat.out⟩
                  rw [hg.block Xo (Nat.lt_of_lt_of_le hlt hb.size) (fun e => by have := hlo Xo (by rw [hvg]; exact e.symm); omega), hb.block Xo hlt]
                have HBs : Hid (RB ≤ w8.heap.size) := Lib.hid (Nat.le_of_lt HR8.out.lt)
                have HRO : Hid (RB ≠ Xo ∧ Xo ≠ RB) := Lib.hid (by have h1 := HH.out.lt; have h2 := HXo.out; omega)
                have HVo := Lib.hid hvo
                clear hlb hrun3 hvg hvo
                go_wp2_with (first | (go_at_call 116; refine (CPr.out _).mono ?_; rintro e w9 ⟨rfl, rfl⟩) | (go_at_call 111; refine (CL.out _).mono ?_; rintro e w10 ⟨rfl, rfl⟩))
                clear z0 z1 z2 z3 z4 z5 f5 y2 hwx
                have htn : ((1 : Int) + (q : Int)).toNat = 1 + q := by omega
                refine wp_region_L (l := 20) (S := (RgS RB Wb (1 + q) (.slice Ap ops.length cp0) (.slice Ag gls.length cg) x)) (by kernel_rfl) ?_ (fun hHeld => ?_)
                · ((try dsimp only); (exact HSg.out _ (Below.refl _ _).drew))
                refine wpAnyL_take (i := 0) (oi := _) (v := ?v44) rfl (by kernel_rfl) (fun _ _ _ h => h) (by assumption) (Or.inl ⟨by kernel_rfl, ?y44⟩) ?r44
                case y44 => (intro w hSw; (try dsimp only at hSw); go_simp; all_goals with_reducible rfl)
                try simp only [List.getElem_toArray, List.getElem_cons_zero, List.getElem_cons_succ, Act.put, List.setIfInBounds_toArray, List.set_cons_zero, List.set_cons_succ]
                refine wpAnyL_take (i := 1) (oi := _) (v := ?v45) rfl (by kernel_rfl) (fun _ _ _ h => h) (by assumption) (Or.inl ⟨by kernel_rfl, ?y45⟩) ?r45
                case y45 => (intro w hSw; (try dsimp only at hSw); go_simp; all_goals with_reducible rfl)
                try simp only [List.getElem_toArray, List.getElem_cons_zero, List.getElem_cons_succ, Act.put, List.setIfInBounds_toArray, List.set_cons_zero, List.set_cons_succ]
                refine wpAnyL_take (i := 2) (oi := _) (v := ?v46) rfl (by kernel_rfl) (fun _ _ _ h => h) (by assumption) (Or.inl ⟨by kernel_rfl, ?y46⟩) ?r46
                case y46 => (intro w hSw; (try dsimp only at hSw); go_simp; all_goals with_reducible rfl)
                try simp only [List.getElem_toArray, List.getElem_cons_zero, List.getElem_cons_succ, Act.put, List.setIfInBounds_toArray, List.set_cons_zero, List.set_cons_succ]
                refine wpAnyL_take (i := 3) (oi := _) (v := ?v47) rfl (by kernel_rfl) (fun _ _ _ h => h) (by assumption) (Or.inl ⟨by kernel_rfl, ?y47⟩) ?r47
                case y47 => (intro w hSw; (try dsimp only at hSw); go_simp; all_goals with_reducible rfl)
                try simp only [List.getElem_toArray, List.getElem_cons_zero, List.getElem_cons_succ, Act.put, List.setIfInBounds_toArray, List.set_cons_zero, List.set_cons_succ]
                refine wpAnyL_take (i := 4) (oi := _) (v := ?v48) rfl (by kernel_rfl) (fun _ _ _ h => h) (by assumption) (Or.inl ⟨by kernel_rfl, ?y48⟩) ?r48
                case y48 => (intro w hSw; (try dsimp only at hSw); go_simp; all_goals with_reducible rfl)
                try simp only [List.getElem_toArray, List.getElem_cons_zero, List.getElem_cons_succ, Act.put, List.setIfInBounds_toArray, List.set_cons_zero, List.set_cons_succ]
                refine wpAnyL_take (i := 5) (oi := _) (v := ?v49) rfl (by kernel_rfl) (fun _ _ _ h => h) (by assumption) (Or.inl ⟨by kernel_rfl, ?y49⟩) ?r49
                case y49 => (intro w hSw; (try dsimp only at hSw); go_simp; all_goals with_reducible rfl)
                try simp only [List.getElem_toArray, List.getElem_cons_zero, List.getElem_cons_succ, Act.put, List.setIfInBounds_toArray, List.set_cons_zero, List.set_cons_succ]
                refine wpAnyL_take (i := 6) (oi := _) (v := ?v50) rfl (by kernel_rfl) (fun _ _ _ h => h) (by assumption) (Or.inl ⟨by kernel_rfl, ?y50⟩) ?r50
                case y50 => (intro w hSw; (try dsimp only at hSw); go_simp; all_goals with_reducible rfl)
                try simp only [List.getElem_toArray, List.getElem_cons_zero, List.getElem_cons_succ, Act.put, List.setIfInBounds_toArray, List.set_cons_zero, List.set_cons_succ]
                refine wpAnyL_take (i := 7) (oi := _) (v := ?v51) rfl (by kernel_rfl) (fun _ _ _ h => h) (by assumption) (Or.inl ⟨by kernel_rfl, ?y51⟩) ?r51
                case y51 => (intro w hSw; (try dsimp only at hSw); go_simp; all_goals with_reducible rfl)
                try simp only [List.getElem_toArray, List.getElem_cons_zero, List.getElem_cons_succ, Act.put, List.setIfInBounds_toArray, List.set_cons_zero, List.set_cons_succ]
                refine wpAnyL_take (i := 8) (oi := _) (v := ?v52) rfl (by kernel_rfl) (fun _ _ _ h => h) (by assumption) (Or.inl ⟨by kernel_rfl, ?y52⟩) ?r52
                case y52 => (intro w hSw; (try dsimp only at hSw); go_simp; all_goals with_reducible rfl)
                try simp only [List.getElem_toArray, List.getElem_cons_zero, List.getElem_cons_succ, Act.put, List.setIfInBounds_toArray, List.set_cons_zero, List.set_cons_succ]
                refine wpAnyL_take (i := 9) (oi := _) (v := ?v53) rfl (by kernel_rfl) (fun _ _ _ h => h) (by assumption) (Or.inl ⟨by kernel_rfl, ?y53⟩) ?r53
                case y53 => (intro w hSw; (try dsimp only at hSw); go_simp; all_goals with_reducible rfl)
                try simp only [List.getElem_toArray, List.getElem_cons_zero, List.getElem_cons_succ, Act.put, List.setIfInBounds_toArray, List.set_cons_zero, List.set_cons_succ]
                refine wpAnyL_take (i := 10) (oi := _) (v := ?v54) rfl (by kernel_rfl) (fun _ _ _ h => h) (by assumption) (Or.inl ⟨by kernel_rfl, ?y54⟩) ?r54
                case y54 => (intro w hSw; (try dsimp only at hSw); go_simp; all_goals with_reducible rfl)
                try simp only [List.getElem_toArray, List.getElem_cons_zero, List.getElem_cons_succ, Act.put, List.setIfInBounds_toArray, List.set_cons_zero, List.set_cons_succ]
                refine wpAnyL_take (i := 11) (oi := _) (v := ?v55) rfl (by kernel_rfl) (fun _ _ _ h => h) (by assumption) (Or.inl ⟨by kernel_rfl, ?y55⟩) ?r55
                case y55 => (intro w hSw; (try dsimp only at hSw); go_simp; all_goals with_reducible rfl)
                try simp only [List.getElem_toArray, List.getElem_cons_zero, List.getElem_cons_succ, Act.put, List.setIfInBounds_toArray, List.set_cons_zero, List.set_cons_succ]
                refine wpAnyL_take (i := 12) (oi := _) (v := ?v56) rfl (by kernel_rfl) (fun _ _ _ h => h) (by assumption) (Or.inl ⟨by kernel_rfl, ?y56⟩) ?r56
                case y56 => (intro w hSw; (try dsimp only at hSw); go_simp; all_goals with_reducible rfl)
                try simp only [List.getElem_toArray, List.getElem_cons_zero, List.getElem_cons_succ, Act.put, List.setIfInBounds_toArray, List.set_cons_zero, List.set_cons_succ]
                refine wpAnyL_take (i := 13) (oi := _) (v := ?v57) rfl (by kernel_rfl) (fun _ _ _ h => h) (by assumption) (Or.inl ⟨by kernel_rfl, ?y57⟩) ?r57
                case y57 => (intro w hSw; (try dsimp only at hSw); go_simp; all_goals with_reducible rfl)
                try simp only [List.getElem_toArray, List.getElem_cons_zero, List.getElem_cons_succ, Act.put, List.setIfInBounds_toArray, List.set_cons_zero, List.set_cons_succ]
                refine wpAnyL_take (i := 14) (oi := _) (v := ?v58) rfl (by kernel_rfl) (fun _ _ _ h => h) (by assumption) (Or.inl ⟨by kernel_rfl, ?y58⟩) ?r58
                case y58 => (intro w hSw; (try dsimp only at hSw); go_simp; all_goals with_reducible rfl)
                try simp only [List.getElem_toArray, List.getElem_cons_zero, List.getElem_cons_succ, Act.put, List.setIfInBounds_toArray, List.set_cons_zero, List.set_cons_succ]
                refine wpAnyL_take (i := 15) (oi := _) (v := ?v59) rfl (by kernel_rfl) (fun _ _ _ h => h) (by assumption) (Or.inl ⟨by kernel_rfl, ?y59⟩) ?r59
                case y59 => (intro w hSw; (try dsimp only at hSw); go_simp; all_goals with_reducible rfl)
                try simp only [List.getElem_toArray, List.getElem_cons_zero, List.getElem_cons_succ, Act.put, List.setIfInBounds_toArray, List.set_cons_zero, List.set_cons_succ]
                refine wpAnyL_step (j := 16) (o := _) (by kernel_rfl) rfl (fun K hK => ?_)
                (go_simp; have hB4 := Lib.hid (fun o => ((Below.refl w8.heap.size w8).drew).alloc (Nat.le_refl _) o))
                refine hK _ _ ?_ (fun hHeld => ?_)
                · ((try dsimp only); (exact HSg.out _ (hB4.out _)))
                clear hK K
                try simp only [List.getElem_toArray, List.getElem_cons_zero, List.getElem_cons_succ, Act.put, List.setIfInBounds_toArray, List.set_cons_zero, List.set_cons_succ]
                refine wpAnyL_step (j := 17) (o := _) (by kernel_rfl) rfl (fun K hK => ?_)
                (refine wp_append_own_at _ _ 84 rfl RB 92 j0 _ 3 32 Tryz.underlying84 hj0 hy0 hy1 hy2 rfl (by decide) (.slice Ag gls.length cg) gls.length (gls.flatMap rgoalCells) rfl (HRo.out _ (hB4.out _)) ⟨w8.heap.size, 0, none⟩ 1 1 (rgoalCells (ops.length, line, x)) rfl rfl (World.news_of_block (heap_alloc_new w8.drew _)) (by simp [rgoalCells, Value.oneCell']) (by have := HNum.out; unfold maxLen; omega) (by have := HNum.out; omega) (Nat.le_trans HBs.out (hB4.out _).size) ?_; intro v' w5 hown' hgrow hat; obtain ⟨gg, cp, rfl⟩ : ∃ gg cp, v' = .slice (some ⟨gg, 0, none⟩) (gls.length + 1) cp := (hown'.2.elim (fun h => absurd h.2 (by omega)) (fun ⟨gg, cp, cur, h, _⟩ => ⟨gg, cp, h⟩)); have hG := Lib.hid (HA.out _ _ _ (hB4.out _) hgrow hown'); have hXX := Lib.hid (HXk.out _ _ (hB4.out _) hgrow); obtain ⟨⟨c0, f0⟩, -⟩ := hG.out; clear hown' hgrow hat)
                refine hK _ _ ?_ (fun hHeld => ?_)
                · ((try dsimp only); (exact ⟨hG.out.2.1.1, hG.out.2.1.2.2.2, hXX.out.2⟩))
                clear hK K
                try simp only [List.getElem_toArray, List.getElem_cons_zero, List.getElem_cons_succ, Act.put, List.setIfInBounds_toArray, List.set_cons_zero, List.set_cons_succ]
                refine wpAnyL_take (i := 18) (oi := _) (v := ?v62) rfl (by kernel_rfl) (fun _ _ _ h => h) (by assumption) (Or.inl ⟨by kernel_rfl, ?y62⟩) ?r62
                case y62 => (intro w hSw; (try dsimp only at hSw); go_simp; all_goals with_reducible rfl)
                try simp only [List.getElem_toArray, List.getElem_cons_zero, List.getElem_cons_succ, Act.put, List.setIfInBounds_toArray, List.set_cons_zero, List.set_cons_succ]
                refine wpAnyL_take (i := 19) (oi := _) (v := ?v63) rfl (by kernel_rfl) (fun _ _ _ h => h) (by assumption) (Or.inl ⟨by kernel_rfl, ?y63⟩) ?r63
                case y63 => (intro w hSw; (try dsimp only at hSw); go_simp; all_goals with_reducible rfl)
                try simp only [List.getElem_toArray, List.getElem_cons_zero, List.getElem_cons_succ, Act.put, List.setIfInBounds_toArray, List.set_cons_zero, List.set_cons_succ]
                refine wpAnyL_last (j := 20) (o := _) (by kernel_rfl) rfl (by rfl) (by kernel_rfl) (fun K hK => ?_)
                go_simp
                (refine hK _ _ ?_; clear hK K)
                try simp only [List.getElem_toArray, List.getElem_cons_zero, List.getElem_cons_succ, Act.put, List.setIfInBounds_toArray, List.set_cons_zero, List.set_cons_succ]
                have hR5 := Lib.hid hG.out.2.2.1
                have hB5 := Lib.hid (HB8.out.trans hG.out.2.2.2)
                have HO5 := Lib.hid (blk_set_ne (hXX.out.1.trans HO8.out) HRO.out.2 3 (.slice (some ⟨gg, 0, none⟩) (gls.length + 1) cp))
                clear hG HSg HRo HA hB4 c0 f0 hHeld hj0 hy0 hy1 hy2 hXX HXk
                obtain ⟨w6, hw6⟩ : ∃ w6, w5.setCell ⟨RB, 3, none⟩ (.slice (some ⟨gg, 0, none⟩) (gls.length + 1) cp) = w6 := ⟨_, rfl⟩
                rw [hw6] at hR5 hB5 HO5 ⊢
                clear hw6
                have z0 := cell_of HO5.out 0
                have z1 := cell_of HO5.out 1
                have z2 := cell_of HO5.out 2
                have z3 := cell_of HO5.out 3
                have z4 := cell_of HO5.out 4
                have z5 := cell_of HO5.out 5
                have f5 := frz_of HO5.out 5
                have y2 := trivial
                simp only [List.getElem?_toArray, List.getElem?_cons_zero, List.getElem?_cons_succ] at z0 z1 z2 z3 z4 z5
                have HO3 : Hid ((w6.setCell ⟨Xo, 5, none⟩ (.int .i64 0)).heap[Xo]? = some (.cells #[.int .u8 o.k, .int .u8 o.c, .int .u8 o.a, .int .u8 o.b, .int .u8 o.d, .int .i64 0] 79 (0, 0))) := Lib.hid (by have := blk_set HO5.out 5 (.int .i64 0); simpa using this)
                have HR3f := Lib.hid (hR5.out.setO (fun k hk => Nat.lt_of_lt_of_le (HH.out.ops.lt k (by rw [HVo.out]; exact hk)).2 HXo.out) HO5.out HRO.out.1 5 (.int .i64 0))
                have HB3 := Lib.hid (hB5.out.setCell (p := ⟨Xo, 5, none⟩) (by have h1 := HH.out.lt; have h2 := HXo.out; show RB ≤ Xo; omega) (.int .i64 0))
                have HVB := Lib.hid (fun k (hk : (Value.slice Ap ops.length cp0).ownBlock = some k) => (HH.out.ops.lt k (by rw [HVo.out]; exact hk)).2)
                have CC := Lib.hid (fun W => rcheck_any o.k o.c o.a o.b o.d 0 HW0.out.1 HW0.out.2 W)
                obtain ⟨oo, hoo⟩ : ∃ oo : Cmd, (⟨o.k, o.c, o.a, o.b, o.d, 0⟩ : Cmd) = oo := ⟨_, rfl⟩
                have HOO := Lib.hid hoo
                rw [hoo] at CC HFin
                clear hoo HW0
                cases hok : okV oo with
                | false =>
                  have hE : okE oo = 1 := by unfold okE; rw [hok]; rfl
                  rw [hE] at CC
                  have HF : Hid (none = R) := Lib.hid (by have h := HFin.out; rw [hok, if_neg (by decide)] at h; exact h)
                  obtain rfl := HF.out
                  clear HF HFin hE hok HRm HRr
                  go_wp2_with (first | (fail) | (go_at_call 117; refine (CC.out _).mono ?_; rintro e w9 ⟨rfl, hb9⟩))
                  go_ret
                  exact ⟨rfl, HB3.out.trans (hb9.mono (Nat.le_of_lt HR3f.out.lt))⟩
                | true =>
                  have hE : okE oo = 0 := by unfold okE; rw [hok]; rfl
                  rw [hE] at CC
                  have HF : Hid (some (⟨ops ++ [oo], labs.zip plcs, (gls ++ [(ops.length, line, x)])⟩ : Rd) = R) := Lib.hid (by have h := HFin.out; rw [hok, if_pos rfl] at h; exact h)
                  obtain rfl := HF.out
                  obtain ⟨i0, hi0, hz0, hz1, hz2⟩ := info_parts infoOp
                  clear HF HFin hE hok HRm HRr
                  go_wp2_with (first | (fail) | (go_at_call 117; refine (CC.out _).mono ?_; rintro e w9 ⟨rfl, hb9⟩; have HR9 := Lib.hid (HR3f.out.below hb9); have HO9 := Lib.hid (blk_below HO3.out hb9); have HB9 := Lib.hid (HB3.out.trans (hb9.mono (Nat.le_of_lt HR3f.out.lt)))))
                  obtain ⟨Ao, co, hvo⟩ := own_slice HR9.out.ops
                  rw [hvo] at HR9
                  have HXk : Hid (∀ w4 w5 : World, Below w9.heap.size w9 w4 → w4.grownBy w5 (Value.slice Ao ops.length co).ownBlock → w5.heap[Xo]? = w9.heap[Xo]?) := Lib.hid fun w4 w5 hb hg => by
                    have hlt : Xo < w9.heap.size := (Array.getElem?_eq_some_iff.1 HO9.out).1
                    have hlo := HVB.out
                    have hx := HXo.out
                    rw [hg.block Xo (Nat.lt_of_lt_of_le hlt hb.size) (fun e => by have := hlo Xo (by rw [hvo]; exact e.symm); omega), hb.block Xo hlt]
                  have hO9 := HO9.out
                  rw [show (.cells #[.int .u8 o.k, .int .u8 o.c, .int .u8 o.a, .int .u8 o.b, .int .u8 o.d, .int .i64 0] 79 (0, 0) : Obj) = .cells #[.int .u8 oo.k, .int .u8 oo.c, .int .u8 oo.a, .int .u8 oo.b, .int .u8 oo.d, .int .i64 oo.n] 79 (0, 0) by rw [← HOO.out]] at hO9
                  have HO10 := Lib.hid hO9
                  have HSa : Hid (∀ W, Below w9.heap.size w9 W → ApS RB Xo (.slice Ao ops.length co) oo W) := Lib.hid fun W hb => aps_of (cell_of (HR9.out.below hb).blk 0) (blk_below HO10.out hb)
                  have HRo := Lib.hid (fun W (hb : Below w9.heap.size w9 W) => (HR9.out.below hb).ops)
                  have HA := Lib.hid (fun (w4 w5 : World) (v' : Value) hb hg ho => HR9.out.appOps (w4 := w4) (w5 := w5) (v' := v') oo hb hg ho)
                  have HBs : Hid (RB ≤ w9.heap.size) := Lib.hid (Nat.le_of_lt HR9.out.lt)
                  clear hO9 hvo hb9 z0 z1 z2 z3 z4 z5 f5 y2
                  go_wp2_with fail
                  refine wp_region_L (l := 10) (S := (ApS RB Xo (.slice Ao ops.length co) oo)) (by kernel_rfl) ?_ (fun hHeld => ?_)
                  · ((try dsimp only); (exact HSa.out _ (Below.refl _ _).drew))
                  refine wpAnyL_take (i := 0) (oi := _) (v := ?v65) rfl (by kernel_rfl) (fun _ _ _ h => h) (by assumption) (Or.inl ⟨by kernel_rfl, ?y65⟩) ?r65
                  case y65 => (intro w hSw; (try dsimp only at hSw); go_simp; all_goals with_reducible rfl)
                  try simp only [List.getElem_toArray, List.getElem_cons_zero, List.getElem_cons_succ, Act.put, List.setIfInBounds_toArray, List.set_cons_zero, List.set_cons_succ]
                  refine wpAnyL_take (i := 1) (oi := _) (v := ?v66) rfl (by kernel_rfl) (fun _ _ _ h => h) (by assumption) (Or.inl ⟨by kernel_rfl, ?y66⟩) ?r66
                  case y66 => (intro w hSw; (try dsimp only at hSw); go_simp; all_goals with_reducible rfl)
                  try simp only [List.getElem_toArray, List.getElem_cons_zero, List.getElem_cons_succ, Act.put, List.setIfInBounds_toArray, List.set_cons_zero, List.set_cons_succ]
                  refine wpAnyL_take (i := 2) (oi := _) (v := ?v67) rfl (by kernel_rfl) (fun _ _ _ h => h) (by assumption) (Or.inl ⟨by kernel_rfl, ?y67⟩) ?r67
                  case y67 => (intro w hSw; (try dsimp only at hSw); go_simp; all_goals with_reducible rfl)
                  try simp only [List.getElem_toArray, List.getElem_cons_zero, List.getElem_cons_succ, Act.put, List.setIfInBounds_toArray, List.set_cons_zero, List.set_cons_succ]
                  refine wpAnyL_take (i := 3) (oi := _) (v := ?v68) rfl (by kernel_rfl) (fun _ _ _ h => h) (by assumption) (Or.inl ⟨by kernel_rfl, ?y68⟩) ?r68
                  case y68 => (intro w hSw; (try dsimp only at hSw); go_simp; all_goals with_reducible rfl)
                  try simp only [List.getElem_toArray, List.getElem_cons_zero, List.getElem_cons_succ, Act.put, List.setIfInBounds_toArray, List.set_cons_zero, List.set_cons_succ]
                  refine wpAnyL_take (i := 4) (oi := _) (v := ?v69) rfl (by kernel_rfl) (fun _ _ _ h => h) (by assumption) (Or.inl ⟨by kernel_rfl, ?y69⟩) ?r69
                  case y69 => (intro w hSw; (try dsimp only at hSw); go_simp; all_goals with_reducible rfl)
                  try simp only [List.getElem_toArray, List.getElem_cons_zero, List.getElem_cons_succ, Act.put, List.setIfInBounds_toArray, List.set_cons_zero, List.set_cons_succ]
                  refine wpAnyL_take (i := 5) (oi := _) (v := ?v70) rfl (by kernel_rfl) (fun _ _ _ h => h) (by assumption) (Or.inl ⟨by kernel_rfl, ?y70⟩) ?r70
                  case y70 => (intro w hSw; (try dsimp only at hSw); go_simp; all_goals with_reducible rfl)
                  try simp only [List.getElem_toArray, List.getElem_cons_zero, List.getElem_cons_succ, Act.put, List.setIfInBounds_toArray, List.set_cons_zero, List.set_cons_succ]
                  refine wpAnyL_step (j := 6) (o := _) (by kernel_rfl) rfl (fun K hK => ?_)
                  (go_simp; have hB4 := Lib.hid (fun o => ((Below.refl w9.heap.size w9).drew).alloc (Nat.le_refl _) o))
                  refine hK _ _ ?_ (fun hHeld => ?_)
                  · ((try dsimp only); (exact HSa.out _ (hB4.out _)))
                  clear hK K
                  try simp only [List.getElem_toArray, List.getElem_cons_zero, List.getElem_cons_succ, Act.put, List.setIfInBounds_toArray, List.set_cons_zero, List.set_cons_succ]
                  refine wpAnyL_step (j := 7) (o := _) (by kernel_rfl) rfl (fun K hK => ?_)
                  (refine wp_append_own_at _ _ 22 rfl RB 79 i0 _ 6 16 Tryz.underlying22 hi0 hz0 hz1 hz2 rfl (by decide) (.slice Ao ops.length co) ops.length (ops.flatMap Cmd.cells) rfl (HRo.out _ (hB4.out _)) ⟨w9.heap.size, 0, none⟩ 1 1 oo.cells rfl rfl (World.news_of_block (heap_alloc_new w9.drew _)) (by simp [Cmd.cells, Value.oneCell']) (by have := HNum.out; unfold maxLen; omega) (by have := HNum.out; omega) (Nat.le_trans HBs.out (hB4.out _).size) ?_; intro v' w5 hown' hgrow hat; obtain ⟨gg, cp, rfl⟩ : ∃ gg cp, v' = .slice (some ⟨gg, 0, none⟩) (ops.length + 1) cp := (hown'.2.elim (fun h => absurd h.2 (by omega)) (fun ⟨gg, cp, cur, h, _⟩ => ⟨gg, cp, h⟩)); have hG := Lib.hid (HA.out _ _ _ (hB4.out _) hgrow hown'); have hXX := Lib.hid ((HXk.out _ _ (hB4.out _) hgrow).trans HO10.out); obtain ⟨⟨c0, f0⟩, -⟩ := hG.out; clear hown' hgrow hat)
                  refine hK _ _ ?_ (fun hHeld => ?_)
                  · ((try dsimp only); (exact aps_of hG.out.2.1.1 hXX.out))
                  clear hK K
                  try simp only [List.getElem_toArray, List.getElem_cons_zero, List.getElem_cons_succ, Act.put, List.setIfInBounds_toArray, List.set_cons_zero, List.set_cons_succ]
                  refine wpAnyL_take (i := 8) (oi := _) (v := ?v73) rfl (by kernel_rfl) (fun _ _ _ h => h) (by assumption) (Or.inl ⟨by kernel_rfl, ?y73⟩) ?r73
                  case y73 => (intro w hSw; (try dsimp only at hSw); go_simp; all_goals with_reducible rfl)
                  try simp only [List.getElem_toArray, List.getElem_cons_zero, List.getElem_cons_succ, Act.put, List.setIfInBounds_toArray, List.set_cons_zero, List.set_cons_succ]
                  refine wpAnyL_take (i := 9) (oi := _) (v := ?v74) rfl (by kernel_rfl) (fun _ _ _ h => h) (by assumption) (Or.inl ⟨by kernel_rfl, ?y74⟩) ?r74
                  case y74 => (intro w hSw; (try dsimp only at hSw); go_simp; all_goals with_reducible rfl)
                  try simp only [List.getElem_toArray, List.getElem_cons_zero, List.getElem_cons_succ, Act.put, List.setIfInBounds_toArray, List.set_cons_zero, List.set_cons_succ]
                  refine wpAnyL_last (j := 10) (o := _) (by kernel_rfl) rfl (by rfl) (by kernel_rfl) (fun K hK => ?_)
                  go_simp
                  (refine hK _ _ ?_; clear hK K)
                  try simp only [List.getElem_toArray, List.getElem_cons_zero, List.getElem_cons_succ, Act.put, List.setIfInBounds_toArray, List.set_cons_zero, List.set_cons_succ]
                  have hR5 := Lib.hid hG.out.2.2.1
                  have hB5 := Lib.hid hG.out.2.2.2
                  clear hG HSa HRo HA hB4 c0 f0 hHeld hi0 hz0 hz1 hz2 hXX HXk
                  go_wp2_with fail
                  go_ret
                  exact ⟨⟨rfl, _, _, hR5.out⟩, HB9.out.trans hB5.out⟩
          · have hjf : (K == 6 || K == 7) = false := by have h := HJ.out; rw [← h]; simpa using hjj
            have t1 : (o.k == 6) = false := by rw [ho.out.1]; cases h6 : (K == 6) <;> simp_all
            have t2 : (o.k == 7) = false := by rw [ho.out.1]; cases h6 : (K == 7) <;> simp_all
            clear hjf
            have HF : Hid (none = R) := Lib.hid (by
              have h := HRm.out
              rw [← hrun3.out, if_neg (fun h => hjj (HPl.out.2 h.1))] at h
              exact h.trans HRr.out)
            obtain rfl := HF.out
            clear HF HRr HRm hrun3
            go_wp2_with (first | (go_at_call 116; refine (CPr.out _).mono ?_; rintro e w9 ⟨rfl, rfl⟩) | (go_at_call 111; refine (CL.out _).mono ?_; rintro e w10 ⟨rfl, rfl⟩))
            go_ret
            exact ⟨rfl, HB8.out⟩
  · have t1 : (((rest.length : Int) + 1) != V2) = true := bne_at (by rw [hVV.out.2]; simp; omega)
    clear hVV
    have HF : Hid (none = R) := Lib.hid (by have h := HRr.out; rw [if_neg (by simp [htn, hl])] at h; exact h)
    obtain rfl := HF.out
    clear HF HRr
    obtain ⟨hV1, hV2⟩ := HV12.out
    go_wp2_with fail
    go_ret
    exact ⟨rfl, HI4.out.bel.mono (Nat.le_of_lt HH.out.lt)⟩

theorem rins_any (H RB : Nat) (ops : List Cmd) (labs : List (List UInt8)) (plcs : List Nat) (gls : List (Nat × Nat × List UInt8)) (vo vl vp vg : Value) (w0 : List UInt8) (rest : List (List UInt8)) (A : Option Addr) (c0 : Nat) (line : Nat) (w : World) (h : RfS RB ops labs plcs gls vo vl vp vg w)
    (hW : w.ownsRow H 9 1 (.slice A (rest.length + 1) c0) (rest.length + 1) ((w0 :: rest).map fun l => Value.string ⟨l.toArray⟩)) (hlen : ∀ x ∈ w0 :: rest, x.length ≤ 65536) (hrl : rest.length ≤ 65536)
    (hops : ops.length ≤ 100000) (hgs : gls.length ≤ 100000) (hline : line ≤ 100000) :
    Calls Tryz.prog 20 #[.pointer (some ⟨RB, 0, none⟩), .slice A (rest.length + 1) c0, .int .i64 line] w fun e w' =>
      (match insV ⟨ops, labs.zip plcs, gls⟩ w0 rest line with
        | some r' => e = .returned (.int .i64 0) ∧ ∃ vo' vg', RfS RB r'.ops labs plcs r'.goals vo' vl vp vg' w'
        | none => e = .returned (.int .i64 13)) ∧ Below RB w w' := by
  cases hfo : formV (kindOf w0) with
  | none => exact rins_none H RB ops labs plcs gls vo vl vp vg w0 rest A c0 line w h hW hlen hrl hops hgs hline hfo
  | some fo =>
    obtain ⟨cal, r, num, lo, hi, jump⟩ := fo
    obtain ⟨-, hcn, -⟩ := form_facts hfo
    cases cal with
    | true =>
      obtain rfl : num = false := hcn rfl
      exact rins_cal H RB ops labs plcs gls vo vl vp vg w0 rest A c0 line w h hW hlen hrl hops hgs hline _ _ (Lib.hid rfl) (Lib.hid rfl) r lo hi jump hfo
    | false =>
      cases num with
      | true => exact rins_num H RB ops labs plcs gls vo vl vp vg w0 rest A c0 line w h hW hlen hrl hops hgs hline _ _ (Lib.hid rfl) (Lib.hid rfl) r lo hi jump hfo
      | false => exact rins_flat H RB ops labs plcs gls vo vl vp vg w0 rest A c0 line w h hW hlen hrl hops hgs hline _ _ (Lib.hid rfl) (Lib.hid rfl) r lo hi jump hfo
end Go.Proofs.YtkkcngppmhebbaaGreatDoor
