/-
  The document's reader: an instruction of words.
-/
import Derived.Test.YtkkcngppmhebbaaGreatDoorRf18E
import Derived.Test.YtkkcngppmhebbaaGreatDoorAsmIns
import Derived.Test.YtkkcngppmhebbaaGreatDoorRefCheck
import Derived.BigRegion
set_option linter.unusedVariables false
set_option linter.unusedSimpArgs false
namespace Go.Proofs.YtkkcngppmhebbaaGreatDoor
open Go.RowKit

structure InB (w : World) (Xo Xf : Nat) (o : Cmd) (cal num : Bool) (r : Nat) (W : World) : Prop where
  o : W.heap[Xo]? = some (.cells #[.int .u8 o.k, .int .u8 o.c, .int .u8 o.a, .int .u8 o.b, .int .u8 o.d, .int .i64 o.n] 79 (0, 0))
  f : W.heap[Xf]? = some (.cells #[.bool cal, .int .i64 r, .bool num] 117 (0, 0))
  bel : Below w.heap.size w W
theorem InB.below {w : World} {Xo Xf : Nat} {o : Cmd} {cal num : Bool} {r : Nat} {W W' : World} (h : InB w Xo Xf o cal num r W) (hb : Below W.heap.size W W') : InB w Xo Xf o cal num r W' :=
  ⟨blk_below h.o hb, blk_below h.f hb, h.bel.trans (hb.mono h.bel.size)⟩
theorem partsV_of {k : Int} {cal num jump : Bool} {r : Nat} {lo hi : Int} (h : formV k = some ⟨cal, r, num, lo, hi, jump⟩) : partsV k = (if cal then [99] else []) ++ List.replicate r 114 ++ (if num then (if jump then [108] else [110]) else []) := by
  unfold partsV; rw [h]
theorem form_facts {k : Int} {cal num jump : Bool} {r : Nat} {lo hi : Int} (h : formV k = some ⟨cal, r, num, lo, hi, jump⟩) : r ≤ 3 ∧ (cal = true → num = false) ∧ jump = (k == 6 || k == 7) := by
  rcases formV_cases k with (rfl | rfl | rfl | rfl | rfl | rfl | rfl | rfl | rfl | rfl | rfl | rfl | rfl | rfl | rfl) | ⟨h0, -⟩
  all_goals first | (rw [h0] at h; cases h; done) | (injection h with h; injection h with h1 h2 h3 h4 h5 h6; subst h1 h2 h3 h6; exact ⟨by decide, by decide, by decide⟩)

def insEnd (r : Rd) (line : Nat) : Option (Cmd × List (List UInt8)) → Option Rd
  | some (o, g) => if okV o then some { r with ops := r.ops ++ [o], goals := r.goals ++ g.map fun w => (r.ops.length, line, w) } else none
  | none => none
theorem want_of {r : Nat} {V V1 V2 : Int} (hr : r ≤ 3) : (r : Int) = V → wrap64 (1 + V) = V1 → wrap64 (V1 + 1) = V2 → V1 = 1 + (r : Int) ∧ V2 = 2 + (r : Int) := by
  have e1 : wrap64 (1 + (r : Int)) = 1 + (r : Int) := wrap_one (by omega)
  have e2 : wrap64 (1 + (r : Int) + 1) = 2 + (r : Int) := by
    rw [show 1 + (r : Int) + 1 = 1 + ((r + 1 : Nat) : Int) by push_cast; omega, wrap_one (by omega)]
    push_cast
    omega
  rintro rfl h1 h2
  rw [e1] at h1
  subst h1
  rw [e2] at h2
  exact ⟨rfl, h2.symm⟩
theorem bne_at {m : Nat} {V : Int} {b : Bool} (h : (decide ((m : Int) + 1 = V)) = !b) : (((m : Int) + 1) != V) = b := by
  by_cases e : (m : Int) + 1 = V
  · rw [decide_eq_true e] at h
    have : b = false := by cases b <;> simp_all
    subst this
    simp [e]
  · rw [decide_eq_false e] at h
    have : b = true := by cases b <;> simp_all
    subst this
    simpa using e

theorem parseV_cases2 (l : List UInt8) : (∃ v, parseV ⟨l.toArray⟩ = (v, 0) ∧ -9223372036854775808 ≤ v ∧ v ≤ 9223372036854775807) ∨ parseV ⟨l.toArray⟩ = (0, 13) := by
  by_cases h : ∃ v, -9223372036854775808 ≤ v ∧ v ≤ 9223372036854775807 ∧ l = Lib.itoa v
  · obtain ⟨v, h1, h2, h3⟩ := h
    exact .inl ⟨v, parseV_of h1 h2 h3, h1, h2⟩
  · exact .inr (parseV_no fun v h1 h2 h3 => h ⟨v, h1, h2, h3⟩)
theorem calcOf_nn (w : List UInt8) : 0 ≤ calcOf w := by unfold calcOf; split <;> omega
theorem jump_kinds {K : Int} (h : true = (K == 6 || K == 7)) : K = 6 ∨ K = 7 := by
  have h := h.symm
  simpa using h
theorem rinfoGoal : (Tryz.prog.info? 92).map (fun i => (i.zero, i.size, i.bytes)) = some (some (.agg #[.int .i64 0, .string ⟨#[]⟩, .int .i64 0]), 3, 32) := by kernel_rfl
/-- what the append of a jump reads -/
abbrev RgS (RB Wb i : Nat) (vo vg : Value) (x : List UInt8) (W : World) : Prop := W.cell? ⟨RB, 0, none⟩ = some vo ∧ W.cell? ⟨RB, 3, none⟩ = some vg ∧ W.cell? ⟨Wb, i, none⟩ = some (.string ⟨x.toArray⟩)
/-- a store into a block that was made behind the reader's -/
theorem RfS.setO {RB Xo : Nat} {ops : List Cmd} {labs : List (List UInt8)} {plcs : List Nat} {gls : List (Nat × Nat × List UInt8)} {vo vl vp vg : Value} {W : World} {cs : Array Value} (h : RfS RB ops labs plcs gls vo vl vp vg W)
    (hvo : ∀ k, vo.ownBlock = some k → k < Xo) (hO : W.heap[Xo]? = some (.cells cs 79 (0, 0))) (hne : RB ≠ Xo) (j : Nat) (u : Value) : RfS RB ops labs plcs gls vo vl vp vg (W.setCell ⟨Xo, j, none⟩ u) := by
  have other : ∀ {B e k n : Nat} {v : Value} {xs : List Value}, W.ownsRow B e k v n xs → e ≠ 79 → v.ownBlock ≠ some Xo := fun ho hT e => by
    obtain ⟨-, cs', hcs⟩ := own_kind ho e
    rw [hO] at hcs; injection hcs with hcs; injection hcs with _ hcs; exact hT hcs.symm
  exact ⟨blk_set_ne h.blk hne j u, own_set_other h.ops (p := ⟨Xo, j, none⟩) (fun e => Nat.lt_irrefl _ (hvo Xo e)) u, own_set_other h.lab (p := ⟨Xo, j, none⟩) (other h.lab (by decide)) u,
    own_set_other h.plc (p := ⟨Xo, j, none⟩) (other h.plc (by decide)) u, own_set_other h.gls (p := ⟨Xo, j, none⟩) (other h.gls (by decide)) u⟩

set_option maxHeartbeats 16000000 in
set_option maxRecDepth 100000 in
theorem rins_none (H RB : Nat) (ops : List Cmd) (labs : List (List UInt8)) (plcs : List Nat) (gls : List (Nat × Nat × List UInt8)) (vo vl vp vg : Value) (w0 : List UInt8) (rest : List (List UInt8)) (A : Option Addr) (c0 : Nat) (line : Nat) (w : World) (h : RfS RB ops labs plcs gls vo vl vp vg w)
    (hW : w.ownsRow H 9 1 (.slice A (rest.length + 1) c0) (rest.length + 1) ((w0 :: rest).map fun l => Value.string ⟨l.toArray⟩)) (hlen : ∀ x ∈ w0 :: rest, x.length ≤ 65536) (hrl : rest.length ≤ 65536)
    (hops : ops.length ≤ 100000) (hgs : gls.length ≤ 100000) (hline : line ≤ 100000) (hfo : formV (kindOf w0) = none) :
    Calls Tryz.prog 20 #[.pointer (some ⟨RB, 0, none⟩), .slice A (rest.length + 1) c0, .int .i64 line] w fun e w' =>
      (match insV ⟨ops, labs.zip plcs, gls⟩ w0 rest line with
        | some r' => e = .returned (.int .i64 0) ∧ ∃ vo' vg', RfS RB r'.ops labs plcs r'.goals vo' vl vp vg' w'
        | none => e = .returned (.int .i64 13)) ∧ Below RB w w' := by
  have HNum : Hid (rest.length ≤ 65536 ∧ ops.length ≤ 100000 ∧ gls.length ≤ 100000 ∧ line ≤ 100000) := Lib.hid ⟨hrl, hops, hgs, hline⟩
  obtain ⟨R, hRr⟩ : ∃ R, insV ⟨ops, labs.zip plcs, gls⟩ w0 rest line = R := ⟨_, rfl⟩
  rw [hRr]
  rw [insV_run] at hRr
  have HRr := Lib.hid hRr
  obtain ⟨Wb, rfl⟩ := words_addr hW
  have HH := Lib.hid h
  have HWc : Hid (∀ W, Below w.heap.size w W → ∀ i x, (w0 :: rest)[i]? = some x → W.cell? ⟨Wb, i, none⟩ = some (.string ⟨x.toArray⟩)) := Lib.hid fun W hb i x hx => words_at (own_belowI hW hb) i x hx
  have HWg : Hid (∀ w4 w5 : World, Below w.heap.size w w4 → w4.grownBy w5 vg.ownBlock → ∀ i x, (w0 :: rest)[i]? = some x → w5.cell? ⟨Wb, i, none⟩ = some (.string ⟨x.toArray⟩)) := Lib.hid fun w4 w5 hb hg i x hx =>
    words_at (own_keptBy (own_belowI hW hb) hg (fun k hk e => own_ne (HH.out.below hb).gls (own_belowI hW hb) (by decide) k e hk)) i x hx
  have HLn := Lib.hid hlen
  have CK := Lib.hid (rkind_any w0 w)
  have hc0 := HWc.out w (Below.refl _ _) 0 w0 rfl
  have p3 : (0 : Int) < ((rest.length : Int) + 1) := by omega
  clear hRr hW hlen hrl hops hgs hline h
  go_enter Tryz.func20, Tryz.ntmps20
  go_wp2_with fail
  refine CK.out.mono ?_
  rintro e w1 ⟨rfl, hb1⟩
  obtain ⟨K, hK⟩ : ∃ K, kindOf w0 = K := ⟨_, rfl⟩
  rw [hK] at HRr hfo ⊢
  clear hK
  obtain ⟨Xo, hXo⟩ : ∃ Xo, w1.heap.size = Xo := ⟨_, rfl⟩
  obtain ⟨w2, hw2⟩ : ∃ w2, w1.alloc (.cells #[.int .u8 K, .int .u8 0, .int .u8 0, .int .u8 0, .int .u8 0, .int .i64 0] 79 (0, 0)) = w2 := ⟨_, rfl⟩
  have hb2 : Below w1.heap.size w1 w2 := by rw [← hw2]; exact (Below.refl _ _).alloc (Nat.le_refl _) _
  have o2 : w2.heap[Xo]? = some (.cells #[.int .u8 K, .int .u8 0, .int .u8 0, .int .u8 0, .int .u8 0, .int .i64 0] 79 (0, 0)) := by rw [← hw2, ← hXo]; exact heap_alloc_new w1 _
  have HB2 : Hid (Below w.heap.size w w2) := Lib.hid (hb1.trans (hb2.mono hb1.size))
  have HO2 := Lib.hid o2
  have HXo : Hid (w.heap.size ≤ Xo) := Lib.hid (by rw [← hXo]; exact hb1.size)
  have HNm := Lib.hid (And.intro hXo hw2)
  clear hb1 hb2 o2 CK hc0 p3 hXo hw2
  have CF := Lib.hid (rfields_none K hfo)
  have HF : Hid (none = R) := Lib.hid (by have h := HRr.out; rw [hfo] at h; exact h)
  obtain rfl := HF.out
  clear HF HRr hfo
  go_wp2_with fail
  obtain ⟨e1, e2⟩ := HNm.out
  simp only [e1, e2]
  clear e1 e2 HNm
  refine (CF.out _).mono ?_
  rintro e w3 ⟨rfl, hb3⟩
  have HB3 := Lib.hid (HB2.out.trans (hb3.mono HB2.out.size))
  clear hb3 CF
  go_wp2_with fail
  go_ret
  exact ⟨rfl, (HB3.out.alloc HB3.out.size _).mono (Nat.le_of_lt HH.out.lt)⟩

set_option maxHeartbeats 16000000 in
set_option maxRecDepth 100000 in
theorem rins_cal (H RB : Nat) (ops : List Cmd) (labs : List (List UInt8)) (plcs : List Nat) (gls : List (Nat × Nat × List UInt8)) (vo vl vp vg : Value) (w0 : List UInt8) (rest : List (List UInt8)) (A : Option Addr) (c0 : Nat) (line : Nat) (w : World) (h : RfS RB ops labs plcs gls vo vl vp vg w)
    (hW : w.ownsRow H 9 1 (.slice A (rest.length + 1) c0) (rest.length + 1) ((w0 :: rest).map fun l => Value.string ⟨l.toArray⟩)) (hlen : ∀ x ∈ w0 :: rest, x.length ≤ 65536) (hrl : rest.length ≤ 65536)
    (hops : ops.length ≤ 100000) (hgs : gls.length ≤ 100000) (hline : line ≤ 100000) (cal num : Bool) (hcc : Hid (cal = true)) (hnn : Hid (num = false)) (r : Nat) (lo hi : Int) (jump : Bool) (hfo : formV (kindOf w0) = some ⟨cal, r, num, lo, hi, jump⟩) :
    Calls Tryz.prog 20 #[.pointer (some ⟨RB, 0, none⟩), .slice A (rest.length + 1) c0, .int .i64 line] w fun e w' =>
      (match insV ⟨ops, labs.zip plcs, gls⟩ w0 rest line with
        | some r' => e = .returned (.int .i64 0) ∧ ∃ vo' vg', RfS RB r'.ops labs plcs r'.goals vo' vl vp vg' w'
        | none => e = .returned (.int .i64 13)) ∧ Below RB w w' := by
  have HNum : Hid (rest.length ≤ 65536 ∧ ops.length ≤ 100000 ∧ gls.length ≤ 100000 ∧ line ≤ 100000) := Lib.hid ⟨hrl, hops, hgs, hline⟩
  obtain ⟨R, hRr⟩ : ∃ R, insV ⟨ops, labs.zip plcs, gls⟩ w0 rest line = R := ⟨_, rfl⟩
  rw [hRr]
  rw [insV_run] at hRr
  have HRr := Lib.hid hRr
  obtain ⟨Wb, rfl⟩ := words_addr hW
  have HH := Lib.hid h
  have HWc : Hid (∀ W, Below w.heap.size w W → ∀ i x, (w0 :: rest)[i]? = some x → W.cell? ⟨Wb, i, none⟩ = some (.string ⟨x.toArray⟩)) := Lib.hid fun W hb i x hx => words_at (own_belowI hW hb) i x hx
  have HWg : Hid (∀ w4 w5 : World, Below w.heap.size w w4 → w4.grownBy w5 vg.ownBlock → ∀ i x, (w0 :: rest)[i]? = some x → w5.cell? ⟨Wb, i, none⟩ = some (.string ⟨x.toArray⟩)) := Lib.hid fun w4 w5 hb hg i x hx =>
    words_at (own_keptBy (own_belowI hW hb) hg (fun k hk e => own_ne (HH.out.below hb).gls (own_belowI hW hb) (by decide) k e hk)) i x hx
  have HLn := Lib.hid hlen
  have CK := Lib.hid (rkind_any w0 w)
  have hc0 := HWc.out w (Below.refl _ _) 0 w0 rfl
  have p3 : (0 : Int) < ((rest.length : Int) + 1) := by omega
  clear hRr hW hlen hrl hops hgs hline h
  go_enter Tryz.func20, Tryz.ntmps20
  go_wp2_with fail
  refine CK.out.mono ?_
  rintro e w1 ⟨rfl, hb1⟩
  obtain ⟨K, hK⟩ : ∃ K, kindOf w0 = K := ⟨_, rfl⟩
  rw [hK] at HRr hfo ⊢
  clear hK
  obtain ⟨Xo, hXo⟩ : ∃ Xo, w1.heap.size = Xo := ⟨_, rfl⟩
  obtain ⟨w2, hw2⟩ : ∃ w2, w1.alloc (.cells #[.int .u8 K, .int .u8 0, .int .u8 0, .int .u8 0, .int .u8 0, .int .i64 0] 79 (0, 0)) = w2 := ⟨_, rfl⟩
  have hb2 : Below w1.heap.size w1 w2 := by rw [← hw2]; exact (Below.refl _ _).alloc (Nat.le_refl _) _
  have o2 : w2.heap[Xo]? = some (.cells #[.int .u8 K, .int .u8 0, .int .u8 0, .int .u8 0, .int .u8 0, .int .i64 0] 79 (0, 0)) := by rw [← hw2, ← hXo]; exact heap_alloc_new w1 _
  have HB2 : Hid (Below w.heap.size w w2) := Lib.hid (hb1.trans (hb2.mono hb1.size))
  have HO2 := Lib.hid o2
  have HXo : Hid (w.heap.size ≤ Xo) := Lib.hid (by rw [← hXo]; exact hb1.size)
  have HNm := Lib.hid (And.intro hXo hw2)
  clear hb1 hb2 o2 CK hc0 p3 hXo hw2
  have CF := Lib.hid (rfields_some K ⟨cal, r, num, lo, hi, jump⟩ hfo)
  have HRr : Hid ((if rest.length = (partsV K).length then insEnd ⟨ops, labs.zip plcs, gls⟩ line (runParts ⟨K, 0, 0, 0, 0, 0⟩ 0 [] (partsV K) rest) else none) = R) := Lib.hid (by have h := HRr.out; rw [hfo] at h; exact h)
  obtain ⟨hr3, hcn, hju⟩ := form_facts hfo
  rw [partsV_of hfo] at HRr
  obtain ⟨hd, hhd⟩ : ∃ hd : List UInt8, (if cal = true then [99] else []) = hd := ⟨_, rfl⟩
  obtain ⟨tl, htl⟩ : ∃ tl : List UInt8, (if num = true then (if jump = true then [108] else [110]) else []) = tl := ⟨_, rfl⟩
  rw [hhd, htl] at HRr
  obtain ⟨R0, hR0⟩ : ∃ R0, runParts ⟨K, 0, 0, 0, 0, 0⟩ 0 [] (hd ++ List.replicate r 114 ++ tl) rest = R0 := ⟨_, rfl⟩
  rw [hR0] at HRr
  obtain ⟨Rm, hRm⟩ : ∃ Rm : Option Rd, insEnd ⟨ops, labs.zip plcs, gls⟩ line R0 = Rm := ⟨_, rfl⟩
  rw [hRm] at HRr
  have HRm := Lib.hid hRm
  clear hRm
  have HR0 := Lib.hid hR0
  have HTl := Lib.hid htl
  clear hR0 htl
  have HJ := Lib.hid hju
  have HR3 := Lib.hid hr3
  dsimp only at CF
  obtain ⟨V, hV⟩ : ∃ V : Int, (r : Int) = V := ⟨_, rfl⟩
  rw [hV] at CF
  clear hfo hju hr3
  go_wp2_with fail
  obtain ⟨e1, e2⟩ := HNm.out
  simp only [e1, e2]
  clear e1 e2 HNm
  refine (CF.out _).mono ?_
  rintro e w3 ⟨rfl, hb3⟩
  obtain ⟨Xf, hXf⟩ : ∃ Xf, w3.heap.size = Xf := ⟨_, rfl⟩
  obtain ⟨wz, hwz⟩ : ∃ wz, w3.alloc (.cells #[.bool false, .int .i64 0, .bool false] 117 (0, 0)) = wz := ⟨_, rfl⟩
  have hbz : Below w3.heap.size w3 wz := by rw [← hwz]; exact (Below.refl _ _).alloc (Nat.le_refl _) _
  have hz : wz.heap[Xf]? = some (.cells #[.bool false, .int .i64 0, .bool false] 117 (0, 0)) := by rw [← hwz, ← hXf]; exact heap_alloc_new w3 _
  obtain ⟨w4, hw4⟩ : ∃ w4, ((wz.setCell ⟨Xf, 0, none⟩ (.bool cal)).setCell ⟨Xf, 1, none⟩ (.int .i64 V)).setCell ⟨Xf, 2, none⟩ (.bool num) = w4 := ⟨_, rfl⟩
  have hb4 : Below w3.heap.size w3 w4 := by
    rw [← hw4]
    exact ((hbz.setCell (p := ⟨Xf, 0, none⟩) (Nat.le_of_eq hXf) _).setCell (p := ⟨Xf, 1, none⟩) (Nat.le_of_eq hXf) _).setCell (p := ⟨Xf, 2, none⟩) (Nat.le_of_eq hXf) _
  have o4 := blk_below (blk_below HO2.out hb3) hb4
  have f4 : w4.heap[Xf]? = some (.cells #[.bool cal, .int .i64 V, .bool num] 117 (0, 0)) := by
    rw [← hw4]
    have := blk_set (blk_set (blk_set hz 0 (.bool cal)) 1 (.int .i64 V)) 2 (.bool num)
    simpa using this
  have zc0 := cell_of hz 0
  have zc1 := cell_of hz 1
  have zc2 := cell_of hz 2
  have zf0 := frz_of hz 0
  have zf1 := frz_of hz 1
  have zf2 := frz_of hz 2
  simp only [List.getElem?_toArray, List.getElem?_cons_zero, List.getElem?_cons_succ] at zc0 zc1 zc2
  clear hbz hz
  have HI4 : Hid (InB w Xo Xf ⟨K, 0, 0, 0, 0, 0⟩ cal num r w4) := Lib.hid ⟨o4, by rw [hV]; exact f4, HB2.out.trans ((hb3.trans (hb4.mono hb3.size)).mono HB2.out.size)⟩
  have HXf : Hid (Xo < Xf) := Lib.hid (by
    have h1 := (Array.getElem?_eq_some_iff.1 HO2.out).1
    have h2 := hb3.size
    omega)
  have y0 := cell_of f4 0
  have y1 := cell_of f4 1
  have y2 := cell_of f4 2
  simp only [List.getElem?_toArray, List.getElem?_cons_zero, List.getElem?_cons_succ] at y0 y1 y2
  clear hb3 hb4 o4 f4 CF HB2 HO2
  obtain ⟨V1, hV1⟩ : ∃ V1, wrap64 (1 + V) = V1 := ⟨_, rfl⟩
  obtain ⟨V2, hV2⟩ : ∃ V2, wrap64 (V1 + 1) = V2 := ⟨_, rfl⟩
  have hVV := Lib.hid (want_of HR3.out hV hV1 hV2)
  have HV12 := Lib.hid (And.intro hV1 hV2)
  clear hV1 hV2
  obtain rfl := hcc.out
  obtain rfl := hnn.out
  obtain rfl : ([99] : List UInt8) = hd := hhd
  clear hcn hcc hnn
  have htn : tl.length = 0 := by have h := HTl.out; rw [if_neg (by decide)] at h; rw [← h]; rfl
  by_cases hl : rest.length = r + 1
  · have t1 : (((rest.length : Int) + 1) != V2) = false := bne_at (by rw [hVV.out.2]; simp; omega)
    replace HRr : Hid (Rm = R) := Lib.hid (by have h := HRr.out; rw [if_pos (by simp [htn, hl]; try omega)] at h; exact h)
    have HL : Hid (rest.length = r + 1) := Lib.hid hl
    have hl0 : 0 < rest.length := by omega
    obtain ⟨x0, hx0⟩ : ∃ x0, rest[0] = x0 := ⟨_, rfl⟩
    replace HR0 : Hid (runParts ⟨K, calcOf x0, 0, 0, 0, 0⟩ 0 [] (List.replicate r 114 ++ tl) (rest.drop 1) = R0) := Lib.hid (by
      have h := HR0.out
      have e : rest = x0 :: rest.drop 1 := by
        have := List.drop_eq_getElem_cons hl0
        rw [List.drop_zero, hx0] at this
        exact this
      rw [e, List.append_assoc, List.cons_append, List.nil_append, runParts_c] at h
      exact h)
    have CC := Lib.hid (fun W => rcalcOf_any x0 W)
    have hwx0 := HWc.out w4 HI4.out.bel 1 x0 (by rw [List.getElem?_cons_succ, List.getElem?_eq_getElem hl0, hx0])
    have p1 : (1 : Int) < (rest.length : Int) + 1 := by omega
    clear hl htn hl0 hx0
    obtain ⟨hV1, hV2⟩ := HV12.out
    go_wp2_with fail
    refine (CC.out _).mono ?_
    rintro e wc ⟨rfl, hbc⟩
    have HIc := Lib.hid (HI4.out.below hbc)
    have hu := cell_of HIc.out.o 1
    have hf := frz_of HIc.out.o 1
    simp only [List.getElem?_toArray, List.getElem?_cons_zero, List.getElem?_cons_succ] at hu
    obtain ⟨w6, hw6⟩ : ∃ w6, wc.setCell ⟨Xo, 1, none⟩ (.int .u8 (calcOf x0)) = w6 := ⟨_, rfl⟩
    have HI6 : Hid (InB w Xo Xf ⟨K, calcOf x0, 0, 0, 0, 0⟩ true false r w6) := Lib.hid (by
      rw [← hw6]
      refine ⟨?_, blk_set_ne HIc.out.f (Nat.ne_of_gt HXf.out) _ _, HIc.out.bel.setCell (p := ⟨Xo, 1, none⟩) HXo.out _⟩
      have := blk_set HIc.out.o 1 (.int .u8 (calcOf x0))
      simpa using this)
    clear hXf hw4 hwz zc0 zc1 zc2 zf0 zf1 zf2 t1 hV1 hV2 hVV y0 y1 y2 hbc p1 hwx0 CC
    have y0 := cell_of HI6.out.f 0
    have y2 := cell_of HI6.out.f 2
    simp only [List.getElem?_toArray, List.getElem?_cons_zero, List.getElem?_cons_succ] at y0 y2
    go_wp2_with fail
    clear hu hf hw6 y0 y2
    obtain ⟨Xr, hXr⟩ : ∃ Xr, w6.heap.size = Xr := ⟨_, rfl⟩
    obtain ⟨w5, hw5⟩ : ∃ w5, w6.alloc (.cells #[.int .u8 0, .int .u8 0, .int .u8 0] 121 (0, 0)) = w5 := ⟨_, rfl⟩
    simp only [hXr, hw5]
    have hb5 : Below w6.heap.size w6 w5 := by rw [← hw5]; exact (Below.refl _ _).alloc (Nat.le_refl _) _
    have r5 : Hid (w5.heap[Xr]? = some (.cells #[.int .u8 0, .int .u8 0, .int .u8 0] 121 (0, 0))) := Lib.hid (by rw [← hw5, ← hXr]; exact heap_alloc_new w6 _)
    have HI5 := Lib.hid (HI6.out.below hb5)
    have HXr : Hid (Xo < Xr ∧ Xf < Xr ∧ w.heap.size ≤ Xr) := Lib.hid (by
      have h1 := (Array.getElem?_eq_some_iff.1 HI6.out.o).1
      have h2 := (Array.getElem?_eq_some_iff.1 HI6.out.f).1
      have h3 := HI6.out.bel.size
      omega)
    clear hXr hw5 hb5
    go_loopw [11, 13] (fun aa ii wr => ∃ (q : Nat) (o : Cmd), ii = .int .i64 q ∧ aa = .int .i64 (2 + (q : Int)) ∧ q ≤ r ∧ Hid (InB w Xo Xf ⟨K, calcOf x0, 0, 0, 0, 0⟩ true false r wr) ∧ Hid (wr.heap[Xr]? = some (.cells #[.int .u8 o.a, .int .u8 o.b, .int .u8 o.d] 121 (0, 0))) ∧ Hid (o.k = K ∧ o.c = calcOf x0 ∧ o.n = 0) ∧ Hid (runParts o q [] (List.replicate (r - q) 114 ++ tl) (rest.drop (1 + q)) = R0)) (fun _ ii _ => r - (intOf ii).toNat)
    case atStart => exact ⟨0, ⟨K, calcOf x0, 0, 0, 0, 0⟩, rfl, rfl, Nat.zero_le _, HI5, r5, Lib.hid ⟨rfl, rfl, rfl⟩, Lib.hid (by rw [← HR0.out]; rfl)⟩
    case round =>
      obtain ⟨q, o, rfl, rfl, hq, hI, hXr, ho, hrun⟩ := hrel
      clear HI5 r5 HR0
      have y1 := cell_of hI.out.f 1
      simp only [List.getElem?_toArray, List.getElem?_cons_zero, List.getElem?_cons_succ] at y1
      have p2 : (0 : Int) ≤ (q : Int) := Int.natCast_nonneg _
      by_cases hlt : q < r
      · have hlt3 : 1 + q < rest.length := by have h := HL.out; omega
        obtain ⟨x, hx⟩ : ∃ x, rest[1 + q] = x := ⟨_, rfl⟩
        have hwx := HWc.out wr hI.out.bel (2 + q) x (by rw [show 2 + q = (1 + q) + 1 by omega, List.getElem?_cons_succ, List.getElem?_eq_getElem hlt3, hx])
        have hxl : x.length ≤ 65536 := HLn.out x (List.mem_cons_of_mem _ (by rw [← hx]; exact List.getElem_mem hlt3))
        have CR := Lib.hid (rregister_any x (by omega) wr)
        have hreg := rreg_regOf x
        obtain ⟨n, b, hnb⟩ : ∃ n b, rregV x = (n, b) := ⟨(rregV x).1, (rregV x).2, rfl⟩
        rw [hnb] at CR hreg
        dsimp only at CR hreg
        have hrun2 : Hid ((match regOf x with | some v => runParts (setReg o q v) (q + 1) [] (List.replicate (r - (q + 1)) 114 ++ tl) (rest.drop (1 + (q + 1))) | none => none) = R0) := Lib.hid (by
          have h := hrun.out
          rw [show r - q = (r - (q + 1)) + 1 by omega, List.replicate_succ, List.cons_append, List.drop_eq_getElem_cons hlt3, hx, runParts_r] at h
          exact h)
        have p4 : (q : Int) < (r : Int) := by omega
        have p5 : (2 : Int) + (q : Int) < (rest.length : Int) + 1 := by omega
        have p6 : (0 : Int) ≤ (2 : Int) + (q : Int) := by omega
        have HQ3 : Hid (q ≤ 2) := Lib.hid (by have h := HR3.out; omega)
        have HLT := Lib.hid hlt
        clear hrun hx hlt3 hxl hnb hlt
        cases b with
        | false =>
          rw [if_neg (by simp)] at hreg
          have HF : Hid (none = R) := Lib.hid (by
            have h := hrun2.out
            rw [← hreg] at h
            have h2 := HRm.out
            rw [← h] at h2
            exact h2.trans HRr.out)
          obtain rfl := HF.out
          clear HF HRr HRm hrun2 hreg
          go_wp2_with (go_at_call 115; refine CR.out.mono ?_; rintro e w7 ⟨rfl, rfl⟩)
          go_ret
          exact ⟨rfl, hI.out.bel.mono (Nat.le_of_lt HH.out.lt)⟩
        | true =>
          by_cases hn8 : n < 8
          · rw [if_pos ⟨rfl, hn8⟩] at hreg
            have hrun3 := Lib.hid hrun2.out
            rw [← hreg] at hrun3
            have t8 : decide ((8 : Int) ≤ (n : Int)) = false := by simp; omega
            have hwu : IntKind.u8.wrap (n : Int) = (n : Int) := by rw [IntKind.wrap_u8]; omega
            clear hrun2 hreg hn8
            have hq3 := HQ3.out
            obtain rfl | rfl | rfl : q = 0 ∨ q = 1 ∨ q = 2 := by omega
            · skip
              have q0 := cell_of hXr.out 0
              have f0 := frz_of hXr.out 0
              simp only [List.getElem?_toArray, List.getElem?_cons_zero, List.getElem?_cons_succ] at q0
              have HI2 : Hid (InB w Xo Xf ⟨K, calcOf x0, 0, 0, 0, 0⟩ true false r (wr.setCell ⟨Xr, 0, none⟩ (.int .u8 n))) := Lib.hid (by
                have hx := HXr.out
                exact ⟨blk_set_ne hI.out.o (by omega) _ _, blk_set_ne hI.out.f (by omega) _ _, hI.out.bel.setCell (p := ⟨Xr, 0, none⟩) hx.2.2 _⟩)
              have HX2 : Hid ((wr.setCell ⟨Xr, 0, none⟩ (.int .u8 n)).heap[Xr]? = some (.cells #[.int .u8 (setReg o 0 n).a, .int .u8 (setReg o 0 n).b, .int .u8 (setReg o 0 n).d] 121 (0, 0))) := Lib.hid (by
                have := blk_set hXr.out 0 (.int .u8 n)
                simpa [setReg] using this)
              have HO2 : Hid ((setReg o 0 n).k = K ∧ (setReg o 0 n).c = calcOf x0 ∧ (setReg o 0 n).n = 0) := Lib.hid (by simpa [setReg] using ho.out)
              have hlq := HLT.out
              clear hI hXr ho hq3
              go_wp2_with (go_at_call 115; refine CR.out.mono ?_; rintro e w7 ⟨rfl, rfl⟩)
              go_roundw
              case rel => exact ⟨1, setReg o 0 n, by first | rfl | go_num, by first | rfl | go_num, by omega, HI2, HX2, HO2, hrun3⟩
              case measure => simp [intOf]; omega
            · skip
              have q0 := cell_of hXr.out 1
              have f0 := frz_of hXr.out 1
              simp only [List.getElem?_toArray, List.getElem?_cons_zero, List.getElem?_cons_succ] at q0
              have HI2 : Hid (InB w Xo Xf ⟨K, calcOf x0, 0, 0, 0, 0⟩ true false r (wr.setCell ⟨Xr, 1, none⟩ (.int .u8 n))) := Lib.hid (by
                have hx := HXr.out
                exact ⟨blk_set_ne hI.out.o (by omega) _ _, blk_set_ne hI.out.f (by omega) _ _, hI.out.bel.setCell (p := ⟨Xr, 1, none⟩) hx.2.2 _⟩)
              have HX2 : Hid ((wr.setCell ⟨Xr, 1, none⟩ (.int .u8 n)).heap[Xr]? = some (.cells #[.int .u8 (setReg o 1 n).a, .int .u8 (setReg o 1 n).b, .int .u8 (setReg o 1 n).d] 121 (0, 0))) := Lib.hid (by
                have := blk_set hXr.out 1 (.int .u8 n)
                simpa [setReg] using this)
              have HO2 : Hid ((setReg o 1 n).k = K ∧ (setReg o 1 n).c = calcOf x0 ∧ (setReg o 1 n).n = 0) := Lib.hid (by simpa [setReg] using ho.out)
              have hlq := HLT.out
              clear hI hXr ho hq3
              go_wp2_with (go_at_call 115; refine CR.out.mono ?_; rintro e w7 ⟨rfl, rfl⟩)
              go_roundw
              case rel => exact ⟨2, setReg o 1 n, by first | rfl | go_num, by first | rfl | go_num, by omega, HI2, HX2, HO2, hrun3⟩
              case measure => simp [intOf]; omega
            · skip
              have q0 := cell_of hXr.out 2
              have f0 := frz_of hXr.out 2
              simp only [List.getElem?_toArray, List.getElem?_cons_zero, List.getElem?_cons_succ] at q0
              have HI2 : Hid (InB w Xo Xf ⟨K, calcOf x0, 0, 0, 0, 0⟩ true false r (wr.setCell ⟨Xr, 2, none⟩ (.int .u8 n))) := Lib.hid (by
                have hx := HXr.out
                exact ⟨blk_set_ne hI.out.o (by omega) _ _, blk_set_ne hI.out.f (by omega) _ _, hI.out.bel.setCell (p := ⟨Xr, 2, none⟩) hx.2.2 _⟩)
              have HX2 : Hid ((wr.setCell ⟨Xr, 2, none⟩ (.int .u8 n)).heap[Xr]? = some (.cells #[.int .u8 (setReg o 2 n).a, .int .u8 (setReg o 2 n).b, .int .u8 (setReg o 2 n).d] 121 (0, 0))) := Lib.hid (by
                have := blk_set hXr.out 2 (.int .u8 n)
                simpa [setReg] using this)
              have HO2 : Hid ((setReg o 2 n).k = K ∧ (setReg o 2 n).c = calcOf x0 ∧ (setReg o 2 n).n = 0) := Lib.hid (by simpa [setReg] using ho.out)
              have hlq := HLT.out
              clear hI hXr ho hq3
              go_wp2_with (go_at_call 115; refine CR.out.mono ?_; rintro e w7 ⟨rfl, rfl⟩)
              go_roundw
              case rel => exact ⟨3, setReg o 2 n, by first | rfl | go_num, by first | rfl | go_num, by omega, HI2, HX2, HO2, hrun3⟩
              case measure => simp [intOf]; omega
          · rw [if_neg (fun h => hn8 h.2)] at hreg
            have HF : Hid (none = R) := Lib.hid (by
              have h := hrun2.out
              rw [← hreg] at h
              have h2 := HRm.out
              rw [← h] at h2
              exact h2.trans HRr.out)
            have t8 : decide ((8 : Int) ≤ (n : Int)) = true := by simp; omega
            obtain rfl := HF.out
            clear HF HRr HRm hrun2 hreg hn8
            go_wp2_with (go_at_call 115; refine CR.out.mono ?_; rintro e w7 ⟨rfl, rfl⟩)
            go_ret
            exact ⟨rfl, hI.out.bel.mono (Nat.le_of_lt HH.out.lt)⟩
      · obtain rfl : q = r := by omega
        have hrun2 : Hid (runParts o q [] tl (rest.drop (1 + q)) = R0) := Lib.hid (by
          have h := hrun.out
          rw [Nat.sub_self, List.replicate_zero, List.nil_append] at h
          exact h)
        clear hrun hlt
        have y2 := cell_of hI.out.f 2
        have q0 := cell_of hXr.out 0
        have q1 := cell_of hXr.out 1
        have q2 := cell_of hXr.out 2
        have u2 := cell_of hI.out.o 2
        have u3 := cell_of hI.out.o 3
        have u4 := cell_of hI.out.o 4
        have g2 := frz_of hI.out.o 2
        have g3 := frz_of hI.out.o 3
        have g4 := frz_of hI.out.o 4
        simp only [List.getElem?_toArray, List.getElem?_cons_zero, List.getElem?_cons_succ] at y2 q0 q1 q2 u2 u3 u4
        have HI2 : Hid (∀ W, Below wr.heap.size wr W → InB w Xo Xf o true false q (((W.setCell ⟨Xo, 2, none⟩ (.int .u8 o.a)).setCell ⟨Xo, 3, none⟩ (.int .u8 o.b)).setCell ⟨Xo, 4, none⟩ (.int .u8 o.d))) := Lib.hid (fun W hb => by
          have hI2 := hI.out.below hb
          refine ⟨?_, blk_set_ne (blk_set_ne (blk_set_ne hI2.f (Nat.ne_of_gt HXf.out) _ _) (Nat.ne_of_gt HXf.out) _ _) (Nat.ne_of_gt HXf.out) _ _, ((hI2.bel.setCell (p := ⟨Xo, 2, none⟩) HXo.out _).setCell (p := ⟨Xo, 3, none⟩) HXo.out _).setCell (p := ⟨Xo, 4, none⟩) HXo.out _⟩
          have := blk_set (blk_set (blk_set hI2.o 2 (.int .u8 o.a)) 3 (.int .u8 o.b)) 4 (.int .u8 o.d)
          rw [ho.out.1, ho.out.2.1, ho.out.2.2]
          simpa using this)
        have HNE : Hid (Xr ≠ Xo) := Lib.hid (Nat.ne_of_gt HXr.out.1)
        have hne := HNE.out
        clear hI hXr
        clear hV
        go_wp2_with fail
        go_region
        obtain ⟨w8, hw8⟩ : ∃ w8, (((wr.setCell ⟨Xo, 2, none⟩ (.int .u8 o.a)).setCell ⟨Xo, 3, none⟩ (.int .u8 o.b)).setCell ⟨Xo, 4, none⟩ (.int .u8 o.d)).drew = w8 := ⟨_, rfl⟩
        have HI8 : Hid (InB w Xo Xf o true false q w8) := Lib.hid (by rw [← hw8]; exact (HI2.out wr (Below.refl _ _)).below (Below.refl _ _).drew)
        simp only [hw8]
        clear hw8 HI2 y1 y2 q0 q1 q2 u2 u3 u4 g2 g3 g4 hne HNE
        have y2 := cell_of HI8.out.f 2
        have z0 := cell_of HI8.out.o 0
        have z1 := cell_of HI8.out.o 1
        have z2 := cell_of HI8.out.o 2
        have z3 := cell_of HI8.out.o 3
        have z4 := cell_of HI8.out.o 4
        have z5 := cell_of HI8.out.o 5
        have f5 := frz_of HI8.out.o 5
        simp only [List.getElem?_toArray, List.getElem?_cons_zero, List.getElem?_cons_succ] at y2 z0 z1 z2 z3 z4 z5
        have HB8 : Hid (Below RB w w8) := Lib.hid (HI8.out.bel.mono (Nat.le_of_lt HH.out.lt))
        have HR8 := Lib.hid (HH.out.below HI8.out.bel)
        have HO8 := Lib.hid HI8.out.o
        have htl0 : tl = [] := by have h := HTl.out; rw [if_neg (by decide)] at h; exact h.symm
        have HFin : Hid ((if okV o = true then some (⟨ops ++ [o], labs.zip plcs, gls⟩ : Rd) else none) = R) := Lib.hid (by
          have h := HRm.out
          rw [← hrun2.out, htl0, runParts_nil] at h
          have h2 := h.trans HRr.out
          simpa [insEnd] using h2)
        have HW0 : Hid (0 ≤ o.c ∧ -9223372036854775808 ≤ o.n ∧ o.n ≤ 9223372036854775807) := Lib.hid (by rw [ho.out.2.1, ho.out.2.2]; exact ⟨calcOf_nn x0, by decide⟩)
        have HO3 := HO8
        have HR3f := HR8
        have HB3 := HB8
        clear htl0 hrun2
        rw [show o = ⟨o.k, o.c, o.a, o.b, o.d, o.n⟩ from rfl] at HFin
        have HVB := Lib.hid (fun k hk => (HH.out.ops.lt k hk).2)
        have CC := Lib.hid (fun W => rcheck_any o.k o.c o.a o.b o.d o.n HW0.out.1 HW0.out.2 W)
        obtain ⟨oo, hoo⟩ : ∃ oo : Cmd, (⟨o.k, o.c, o.a, o.b, o.d, o.n⟩ : Cmd) = oo := ⟨_, rfl⟩
        have HOO := Lib.hid hoo
        rw [hoo] at CC HFin
        clear hoo HW0
        cases hok : okV oo with
        | false =>
          have hE : okE oo = 1 := by unfold okE; rw [hok]; rfl
          rw [hE] at CC
          have HF : Hid (none = R) := Lib.hid (by have h := HFin.out; rw [hok, if_neg (by decide)] at h; exact h)
          obtain rfl := HF.out
          clear HF HFin hE hok HRm HRr
          go_wp2_with (first | (fail) | (go_at_call 117; refine (CC.out _).mono ?_; rintro e w9 ⟨rfl, hb9⟩))
          go_ret
          exact ⟨rfl, HB3.out.trans (hb9.mono (Nat.le_of_lt HR3f.out.lt))⟩
        | true =>
          have hE : okE oo = 0 := by unfold okE; rw [hok]; rfl
          rw [hE] at CC
          have HF : Hid (some (⟨ops ++ [oo], labs.zip plcs, gls⟩ : Rd) = R) := Lib.hid (by have h := HFin.out; rw [hok, if_pos rfl] at h; exact h)
          obtain rfl := HF.out
          obtain ⟨i0, hi0, hz0, hz1, hz2⟩ := info_parts infoOp
          clear HF HFin hE hok HRm HRr
          go_wp2_with (first | (fail) | (go_at_call 117; refine (CC.out _).mono ?_; rintro e w9 ⟨rfl, hb9⟩; have HR9 := Lib.hid (HR3f.out.below hb9); have HO9 := Lib.hid (blk_below HO3.out hb9); have HB9 := Lib.hid (HB3.out.trans (hb9.mono (Nat.le_of_lt HR3f.out.lt)))))
          obtain ⟨Ao, co, hvo⟩ := own_slice HR9.out.ops
          rw [hvo] at HR9
          have HXk : Hid (∀ w4 w5 : World, Below w9.heap.size w9 w4 → w4.grownBy w5 (Value.slice Ao ops.length co).ownBlock → w5.heap[Xo]? = w9.heap[Xo]?) := Lib.hid fun w4 w5 hb hg => by
            have hlt : Xo < w9.heap.size := (Array.getElem?_eq_some_iff.1 HO9.out).1
            have hlo := HVB.out
            have hx := HXo.out
            rw [hg.block Xo (Nat.lt_of_lt_of_le hlt hb.size) (fun e => by have := hlo Xo (by rw [hvo]; exact e.symm); omega), hb.block Xo hlt]
          have hO9 := HO9.out
          rw [show (.cells #[.int .u8 o.k, .int .u8 o.c, .int .u8 o.a, .int .u8 o.b, .int .u8 o.d, .int .i64 o.n] 79 (0, 0) : Obj) = .cells #[.int .u8 oo.k, .int .u8 oo.c, .int .u8 oo.a, .int .u8 oo.b, .int .u8 oo.d, .int .i64 oo.n] 79 (0, 0) by rw [← HOO.out]] at hO9
          have HO10 := Lib.hid hO9
          have HSa : Hid (∀ W, Below w9.heap.size w9 W → ApS RB Xo (.slice Ao ops.length co) oo W) := Lib.hid fun W hb => aps_of (cell_of (HR9.out.below hb).blk 0) (blk_below HO10.out hb)
          have HRo := Lib.hid (fun W (hb : Below w9.heap.size w9 W) => (HR9.out.below hb).ops)
          have HA := Lib.hid (fun (w4 w5 : World) (v' : Value) hb hg ho => HR9.out.appOps (w4 := w4) (w5 := w5) (v' := v') oo hb hg ho)
          have HBs : Hid (RB ≤ w9.heap.size) := Lib.hid (Nat.le_of_lt HR9.out.lt)
          clear hO9 hvo hb9 z0 z1 z2 z3 z4 z5 f5 y2
          go_wp2_with fail
          refine wp_region_L (l := 10) (S := (ApS RB Xo (.slice Ao ops.length co) oo)) (by kernel_rfl) ?_ (fun hHeld => ?_)
          · ((try dsimp only); (exact HSa.out _ (Below.refl _ _).drew))
          refine wpAnyL_take (i := 0) (oi := _) (v := ?v1) rfl (by kernel_rfl) (fun _ _ _ h => h) (by assumption) (Or.inl ⟨by kernel_rfl, ?y1⟩) ?r1
          case y1 => (intro w hSw; (try dsimp only at hSw); go_simp; all_goals with_reducible rfl)
          try simp only [List.getElem_toArray, List.getElem_cons_zero, List.getElem_cons_succ, Act.put, List.setIfInBounds_toArray, List.set_cons_zero, List.set_cons_succ]
          refine wpAnyL_take (i := 1) (oi := _) (v := ?v2) rfl (by kernel_rfl) (fun _ _ _ h => h) (by assumption) (Or.inl ⟨by kernel_rfl, ?y2⟩) ?r2
          case y2 => (intro w hSw; (try dsimp only at hSw); go_simp; all_goals with_reducible rfl)
          try simp only [List.getElem_toArray, List.getElem_cons_zero, List.getElem_cons_succ, Act.put, List.setIfInBounds_toArray, List.set_cons_zero, List.set_cons_succ]
          refine wpAnyL_take (i := 2) (oi := _) (v := ?v3) rfl (by kernel_rfl) (fun _ _ _ h => h) (by assumption) (Or.inl ⟨by kernel_rfl, ?y3⟩) ?r3
          case y3 => (intro w hSw; (try dsimp only at hSw); go_simp; all_goals with_reducible rfl)
          try simp only [List.getElem_toArray, List.getElem_cons_zero, List.getElem_cons_succ, Act.put, List.setIfInBounds_toArray, List.set_cons_zero, List.set_cons_succ]
          refine wpAnyL_take (i := 3) (oi := _) (v := ?v4) rfl (by kernel_rfl) (fun _ _ _ h => h) (by assumption) (Or.inl ⟨by kernel_rfl, ?y4⟩) ?r4
          case y4 => (intro w hSw; (try dsimp only at hSw); go_simp; all_goals with_reducible rfl)
          try simp only [List.getElem_toArray, List.getElem_cons_zero, List.getElem_cons_succ, Act.put, List.setIfInBounds_toArray, List.set_cons_zero, List.set_cons_succ]
          refine wpAnyL_take (i := 4) (oi := _) (v := ?v5) rfl (by kernel_rfl) (fun _ _ _ h => h) (by assumption) (Or.inl ⟨by kernel_rfl, ?y5⟩) ?r5
          case y5 => (intro w hSw; (try dsimp only at hSw); go_simp; all_goals with_reducible rfl)
          try simp only [List.getElem_toArray, List.getElem_cons_zero, List.getElem_cons_succ, Act.put, List.setIfInBounds_toArray, List.set_cons_zero, List.set_cons_succ]
          refine wpAnyL_take (i := 5) (oi := _) (v := ?v6) rfl (by kernel_rfl) (fun _ _ _ h => h) (by assumption) (Or.inl ⟨by kernel_rfl, ?y6⟩) ?r6
          case y6 => (intro w hSw; (try dsimp only at hSw); go_simp; all_goals with_reducible rfl)
          try simp only [List.getElem_toArray, List.getElem_cons_zero, List.getElem_cons_succ, Act.put, List.setIfInBounds_toArray, List.set_cons_zero, List.set_cons_succ]
          refine wpAnyL_step (j := 6) (o := _) (by kernel_rfl) rfl (fun K hK => ?_)
          (go_simp; have hB4 := Lib.hid (fun o => ((Below.refl w9.heap.size w9).drew).alloc (Nat.le_refl _) o))
          refine hK _ _ ?_ (fun hHeld => ?_)
          · ((try dsimp only); (exact HSa.out _ (hB4.out _)))
          clear hK K
          try simp only [List.getElem_toArray, List.getElem_cons_zero, List.getElem_cons_succ, Act.put, List.setIfInBounds_toArray, List.set_cons_zero, List.set_cons_succ]
          refine wpAnyL_step (j := 7) (o := _) (by kernel_rfl) rfl (fun K hK => ?_)
          (refine wp_append_own_at _ _ 22 rfl RB 79 i0 _ 6 16 Tryz.underlying22 hi0 hz0 hz1 hz2 rfl (by decide) (.slice Ao ops.length co) ops.length (ops.flatMap Cmd.cells) rfl (HRo.out _ (hB4.out _)) ⟨w9.heap.size, 0, none⟩ 1 1 oo.cells rfl rfl (World.news_of_block (heap_alloc_new w9.drew _)) (by simp [Cmd.cells, Value.oneCell']) (by have := HNum.out; unfold maxLen; omega) (by have := HNum.out; omega) (Nat.le_trans HBs.out (hB4.out _).size) ?_; intro v' w5 hown' hgrow hat; obtain ⟨gg, cp, rfl⟩ : ∃ gg cp, v' = .slice (some ⟨gg, 0, none⟩) (ops.length + 1) cp := (hown'.2.elim (fun h => absurd h.2 (by omega)) (fun ⟨gg, cp, cur, h, _⟩ => ⟨gg, cp, h⟩)); have hG := Lib.hid (HA.out _ _ _ (hB4.out _) hgrow hown'); have hXX := Lib.hid ((HXk.out _ _ (hB4.out _) hgrow).trans HO10.out); obtain ⟨⟨c0, f0⟩, -⟩ := hG.out; clear hown' hgrow hat)
          refine hK _ _ ?_ (fun hHeld => ?_)
          · ((try dsimp only); (exact aps_of hG.out.2.1.1 hXX.out))
          clear hK K
          try simp only [List.getElem_toArray, List.getElem_cons_zero, List.getElem_cons_succ, Act.put, List.setIfInBounds_toArray, List.set_cons_zero, List.set_cons_succ]
          refine wpAnyL_take (i := 8) (oi := _) (v := ?v9) rfl (by kernel_rfl) (fun _ _ _ h => h) (by assumption) (Or.inl ⟨by kernel_rfl, ?y9⟩) ?r9
          case y9 => (intro w hSw; (try dsimp only at hSw); go_simp; all_goals with_reducible rfl)
          try simp only [List.getElem_toArray, List.getElem_cons_zero, List.getElem_cons_succ, Act.put, List.setIfInBounds_toArray, List.set_cons_zero, List.set_cons_succ]
          refine wpAnyL_take (i := 9) (oi := _) (v := ?v10) rfl (by kernel_rfl) (fun _ _ _ h => h) (by assumption) (Or.inl ⟨by kernel_rfl, ?y10⟩) ?r10
          case y10 => (intro w hSw; (try dsimp only at hSw); go_simp; all_goals with_reducible rfl)
          try simp only [List.getElem_toArray, List.getElem_cons_zero, List.getElem_cons_succ, Act.put, List.setIfInBounds_toArray, List.set_cons_zero, List.set_cons_succ]
          refine wpAnyL_last (j := 10) (o := _) (by kernel_rfl) rfl (by rfl) (by kernel_rfl) (fun K hK => ?_)
          go_simp
          (refine hK _ _ ?_; clear hK K)
          try simp only [List.getElem_toArray, List.getElem_cons_zero, List.getElem_cons_succ, Act.put, List.setIfInBounds_toArray, List.set_cons_zero, List.set_cons_succ]
          have hR5 := Lib.hid hG.out.2.2.1
          have hB5 := Lib.hid hG.out.2.2.2
          clear hG HSa HRo HA hB4 c0 f0 hHeld hi0 hz0 hz1 hz2 hXX HXk
          go_wp2_with fail
          go_ret
          exact ⟨⟨rfl, _, _, hR5.out⟩, HB9.out.trans hB5.out⟩
  · have t1 : (((rest.length : Int) + 1) != V2) = true := bne_at (by rw [hVV.out.2]; simp; omega)
    clear hVV
    have HF : Hid (none = R) := Lib.hid (by have h := HRr.out; rw [if_neg (by simp [htn]; omega)] at h; exact h)
    obtain rfl := HF.out
    clear HF HRr
    obtain ⟨hV1, hV2⟩ := HV12.out
    go_wp2_with fail
    go_ret
    exact ⟨rfl, HI4.out.bel.mono (Nat.le_of_lt HH.out.lt)⟩

set_option maxHeartbeats 16000000 in
set_option maxRecDepth 100000 in
theorem rins_flat (H RB : Nat) (ops : List Cmd) (labs : List (List UInt8)) (plcs : List Nat) (gls : List (Nat × Nat × List UInt8)) (vo vl vp vg : Value) (w0 : List UInt8) (rest : List (List UInt8)) (A : Option Addr) (c0 : Nat) (line : Nat) (w : World) (h : RfS RB ops labs plcs gls vo vl vp vg w)
    (hW : w.ownsRow H 9 1 (.slice A (rest.length + 1) c0) (rest.length + 1) ((w0 :: rest).map fun l => Value.string ⟨l.toArray⟩)) (hlen : ∀ x ∈ w0 :: rest, x.length ≤ 65536) (hrl : rest.length ≤ 65536)
    (hops : ops.length ≤ 100000) (hgs : gls.length ≤ 100000) (hline : line ≤ 100000) (cal num : Bool) (hcc : Hid (cal = false)) (hnn : Hid (num = false)) (r : Nat) (lo hi : Int) (jump : Bool) (hfo : formV (kindOf w0) = some ⟨cal, r, num, lo, hi, jump⟩) :
    Calls Tryz.prog 20 #[.pointer (some ⟨RB, 0, none⟩), .slice A (rest.length + 1) c0, .int .i64 line] w fun e w' =>
      (match insV ⟨ops, labs.zip plcs, gls⟩ w0 rest line with
        | some r' => e = .returned (.int .i64 0) ∧ ∃ vo' vg', RfS RB r'.ops labs plcs r'.goals vo' vl vp vg' w'
        | none => e = .returned (.int .i64 13)) ∧ Below RB w w' := by
  have HNum : Hid (rest.length ≤ 65536 ∧ ops.length ≤ 100000 ∧ gls.length ≤ 100000 ∧ line ≤ 100000) := Lib.hid ⟨hrl, hops, hgs, hline⟩
  obtain ⟨R, hRr⟩ : ∃ R, insV ⟨ops, labs.zip plcs, gls⟩ w0 rest line = R := ⟨_, rfl⟩
  rw [hRr]
  rw [insV_run] at hRr
  have HRr := Lib.hid hRr
  obtain ⟨Wb, rfl⟩ := words_addr hW
  have HH := Lib.hid h
  have HWc : Hid (∀ W, Below w.heap.size w W → ∀ i x, (w0 :: rest)[i]? = some x → W.cell? ⟨Wb, i, none⟩ = some (.string ⟨x.toArray⟩)) := Lib.hid fun W hb i x hx => words_at (own_belowI hW hb) i x hx
  have HWg : Hid (∀ w4 w5 : World, Below w.heap.size w w4 → w4.grownBy w5 vg.ownBlock → ∀ i x, (w0 :: rest)[i]? = some x → w5.cell? ⟨Wb, i, none⟩ = some (.string ⟨x.toArray⟩)) := Lib.hid fun w4 w5 hb hg i x hx =>
    words_at (own_keptBy (own_belowI hW hb) hg (fun k hk e => own_ne (HH.out.below hb).gls (own_belowI hW hb) (by decide) k e hk)) i x hx
  have HLn := Lib.hid hlen
  have CK := Lib.hid (rkind_any w0 w)
  have hc0 := HWc.out w (Below.refl _ _) 0 w0 rfl
  have p3 : (0 : Int) < ((rest.length : Int) + 1) := by omega
  clear hRr hW hlen hrl hops hgs hline h
  go_enter Tryz.func20, Tryz.ntmps20
  go_wp2_with fail
  refine CK.out.mono ?_
  rintro e w1 ⟨rfl, hb1⟩
  obtain ⟨K, hK⟩ : ∃ K, kindOf w0 = K := ⟨_, rfl⟩
  rw [hK] at HRr hfo ⊢
  clear hK
  obtain ⟨Xo, hXo⟩ : ∃ Xo, w1.heap.size = Xo := ⟨_, rfl⟩
  obtain ⟨w2, hw2⟩ : ∃ w2, w1.alloc (.cells #[.int .u8 K, .int .u8 0, .int .u8 0, .int .u8 0, .int .u8 0, .int .i64 0] 79 (0, 0)) = w2 := ⟨_, rfl⟩
  have hb2 : Below w1.heap.size w1 w2 := by rw [← hw2]; exact (Below.refl _ _).alloc (Nat.le_refl _) _
  have o2 : w2.heap[Xo]? = some (.cells #[.int .u8 K, .int .u8 0, .int .u8 0, .int .u8 0, .int .u8 0, .int .i64 0] 79 (0, 0)) := by rw [← hw2, ← hXo]; exact heap_alloc_new w1 _
  have HB2 : Hid (Below w.heap.size w w2) := Lib.hid (hb1.trans (hb2.mono hb1.size))
  have HO2 := Lib.hid o2
  have HXo : Hid (w.heap.size ≤ Xo) := Lib.hid (by rw [← hXo]; exact hb1.size)
  have HNm := Lib.hid (And.intro hXo hw2)
  clear hb1 hb2 o2 CK hc0 p3 hXo hw2
  have CF := Lib.hid (rfields_some K ⟨cal, r, num, lo, hi, jump⟩ hfo)
  have HRr : Hid ((if rest.length = (partsV K).length then insEnd ⟨ops, labs.zip plcs, gls⟩ line (runParts ⟨K, 0, 0, 0, 0, 0⟩ 0 [] (partsV K) rest) else none) = R) := Lib.hid (by have h := HRr.out; rw [hfo] at h; exact h)
  obtain ⟨hr3, hcn, hju⟩ := form_facts hfo
  rw [partsV_of hfo] at HRr
  obtain ⟨hd, hhd⟩ : ∃ hd : List UInt8, (if cal = true then [99] else []) = hd := ⟨_, rfl⟩
  obtain ⟨tl, htl⟩ : ∃ tl : List UInt8, (if num = true then (if jump = true then [108] else [110]) else []) = tl := ⟨_, rfl⟩
  rw [hhd, htl] at HRr
  obtain ⟨R0, hR0⟩ : ∃ R0, runParts ⟨K, 0, 0, 0, 0, 0⟩ 0 [] (hd ++ List.replicate r 114 ++ tl) rest = R0 := ⟨_, rfl⟩
  rw [hR0] at HRr
  obtain ⟨Rm, hRm⟩ : ∃ Rm : Option Rd, insEnd ⟨ops, labs.zip plcs, gls⟩ line R0 = Rm := ⟨_, rfl⟩
  rw [hRm] at HRr
  have HRm := Lib.hid hRm
  clear hRm
  have HR0 := Lib.hid hR0
  have HTl := Lib.hid htl
  clear hR0 htl
  have HJ := Lib.hid hju
  have HR3 := Lib.hid hr3
  dsimp only at CF
  obtain ⟨V, hV⟩ : ∃ V : Int, (r : Int) = V := ⟨_, rfl⟩
  rw [hV] at CF
  clear hfo hju hr3
  go_wp2_with fail
  obtain ⟨e1, e2⟩ := HNm.out
  simp only [e1, e2]
  clear e1 e2 HNm
  refine (CF.out _).mono ?_
  rintro e w3 ⟨rfl, hb3⟩
  obtain ⟨Xf, hXf⟩ : ∃ Xf, w3.heap.size = Xf := ⟨_, rfl⟩
  obtain ⟨wz, hwz⟩ : ∃ wz, w3.alloc (.cells #[.bool false, .int .i64 0, .bool false] 117 (0, 0)) = wz := ⟨_, rfl⟩
  have hbz : Below w3.heap.size w3 wz := by rw [← hwz]; exact (Below.refl _ _).alloc (Nat.le_refl _) _
  have hz : wz.heap[Xf]? = some (.cells #[.bool false, .int .i64 0, .bool false] 117 (0, 0)) := by rw [← hwz, ← hXf]; exact heap_alloc_new w3 _
  obtain ⟨w4, hw4⟩ : ∃ w4, ((wz.setCell ⟨Xf, 0, none⟩ (.bool cal)).setCell ⟨Xf, 1, none⟩ (.int .i64 V)).setCell ⟨Xf, 2, none⟩ (.bool num) = w4 := ⟨_, rfl⟩
  have hb4 : Below w3.heap.size w3 w4 := by
    rw [← hw4]
    exact ((hbz.setCell (p := ⟨Xf, 0, none⟩) (Nat.le_of_eq hXf) _).setCell (p := ⟨Xf, 1, none⟩) (Nat.le_of_eq hXf) _).setCell (p := ⟨Xf, 2, none⟩) (Nat.le_of_eq hXf) _
  have o4 := blk_below (blk_below HO2.out hb3) hb4
  have f4 : w4.heap[Xf]? = some (.cells #[.bool cal, .int .i64 V, .bool num] 117 (0, 0)) := by
    rw [← hw4]
    have := blk_set (blk_set (blk_set hz 0 (.bool cal)) 1 (.int .i64 V)) 2 (.bool num)
    simpa using this
  have zc0 := cell_of hz 0
  have zc1 := cell_of hz 1
  have zc2 := cell_of hz 2
  have zf0 := frz_of hz 0
  have zf1 := frz_of hz 1
  have zf2 := frz_of hz 2
  simp only [List.getElem?_toArray, List.getElem?_cons_zero, List.getElem?_cons_succ] at zc0 zc1 zc2
  clear hbz hz
  have HI4 : Hid (InB w Xo Xf ⟨K, 0, 0, 0, 0, 0⟩ cal num r w4) := Lib.hid ⟨o4, by rw [hV]; exact f4, HB2.out.trans ((hb3.trans (hb4.mono hb3.size)).mono HB2.out.size)⟩
  have HXf : Hid (Xo < Xf) := Lib.hid (by
    have h1 := (Array.getElem?_eq_some_iff.1 HO2.out).1
    have h2 := hb3.size
    omega)
  have y0 := cell_of f4 0
  have y1 := cell_of f4 1
  have y2 := cell_of f4 2
  simp only [List.getElem?_toArray, List.getElem?_cons_zero, List.getElem?_cons_succ] at y0 y1 y2
  clear hb3 hb4 o4 f4 CF HB2 HO2
  obtain ⟨V1, hV1⟩ : ∃ V1, wrap64 (1 + V) = V1 := ⟨_, rfl⟩
  obtain ⟨V2, hV2⟩ : ∃ V2, wrap64 (V1 + 1) = V2 := ⟨_, rfl⟩
  have hVV := Lib.hid (want_of HR3.out hV hV1 hV2)
  have HV12 := Lib.hid (And.intro hV1 hV2)
  clear hV1 hV2
  obtain rfl := hcc.out
  obtain rfl := hnn.out
  obtain rfl : ([] : List UInt8) = hd := hhd
  clear hcn hcc hnn
  rw [List.nil_append] at HRr HR0
  have htn : tl.length = 0 := by have h := HTl.out; rw [if_neg (by decide)] at h; rw [← h]; rfl
  by_cases hl : rest.length = r
  · have t1 : (((rest.length : Int) + 1) != V1) = false := bne_at (by rw [hVV.out.1]; simp; omega)
    replace HRr : Hid (Rm = R) := Lib.hid (by have h := HRr.out; rw [if_pos (by simp [htn, hl])] at h; exact h)
    have HL : Hid (rest.length = r) := Lib.hid hl
    clear hl htn
    obtain ⟨hV1, hV2⟩ := HV12.out
    go_wp2_with fail
    clear hXf hw4 hwz zc0 zc1 zc2 zf0 zf1 zf2 t1 hV1 hV2 hVV y0 y1 y2
    obtain ⟨Xr, hXr⟩ : ∃ Xr, w4.heap.size = Xr := ⟨_, rfl⟩
    obtain ⟨w5, hw5⟩ : ∃ w5, w4.alloc (.cells #[.int .u8 0, .int .u8 0, .int .u8 0] 121 (0, 0)) = w5 := ⟨_, rfl⟩
    simp only [hXr, hw5]
    have hb5 : Below w4.heap.size w4 w5 := by rw [← hw5]; exact (Below.refl _ _).alloc (Nat.le_refl _) _
    have r5 : Hid (w5.heap[Xr]? = some (.cells #[.int .u8 0, .int .u8 0, .int .u8 0] 121 (0, 0))) := Lib.hid (by rw [← hw5, ← hXr]; exact heap_alloc_new w4 _)
    have HI5 := Lib.hid (HI4.out.below hb5)
    have HXr : Hid (Xo < Xr ∧ Xf < Xr ∧ w.heap.size ≤ Xr) := Lib.hid (by
      have h1 := (Array.getElem?_eq_some_iff.1 HI4.out.o).1
      have h2 := (Array.getElem?_eq_some_iff.1 HI4.out.f).1
      have h3 := HI4.out.bel.size
      omega)
    clear hXr hw5 hb5
    go_loopw [11, 13] (fun aa ii wr => ∃ (q : Nat) (o : Cmd), ii = .int .i64 q ∧ aa = .int .i64 (1 + (q : Int)) ∧ q ≤ r ∧ Hid (InB w Xo Xf ⟨K, 0, 0, 0, 0, 0⟩ false false r wr) ∧ Hid (wr.heap[Xr]? = some (.cells #[.int .u8 o.a, .int .u8 o.b, .int .u8 o.d] 121 (0, 0))) ∧ Hid (o.k = K ∧ o.c = 0 ∧ o.n = 0) ∧ Hid (runParts o q [] (List.replicate (r - q) 114 ++ tl) (rest.drop (0 + q)) = R0)) (fun _ ii _ => r - (intOf ii).toNat)
    case atStart => exact ⟨0, ⟨K, 0, 0, 0, 0, 0⟩, rfl, rfl, Nat.zero_le _, HI5, r5, Lib.hid ⟨rfl, rfl, rfl⟩, Lib.hid (by rw [← HR0.out]; rfl)⟩
    case round =>
      obtain ⟨q, o, rfl, rfl, hq, hI, hXr, ho, hrun⟩ := hrel
      clear HI5 r5 HR0
      have y1 := cell_of hI.out.f 1
      simp only [List.getElem?_toArray, List.getElem?_cons_zero, List.getElem?_cons_succ] at y1
      have p2 : (0 : Int) ≤ (q : Int) := Int.natCast_nonneg _
      by_cases hlt : q < r
      · have hlt3 : 0 + q < rest.length := by have h := HL.out; omega
        obtain ⟨x, hx⟩ : ∃ x, rest[0 + q] = x := ⟨_, rfl⟩
        have hwx := HWc.out wr hI.out.bel (1 + q) x (by rw [show 1 + q = (0 + q) + 1 by omega, List.getElem?_cons_succ, List.getElem?_eq_getElem hlt3, hx])
        have hxl : x.length ≤ 65536 := HLn.out x (List.mem_cons_of_mem _ (by rw [← hx]; exact List.getElem_mem hlt3))
        have CR := Lib.hid (rregister_any x (by omega) wr)
        have hreg := rreg_regOf x
        obtain ⟨n, b, hnb⟩ : ∃ n b, rregV x = (n, b) := ⟨(rregV x).1, (rregV x).2, rfl⟩
        rw [hnb] at CR hreg
        dsimp only at CR hreg
        have hrun2 : Hid ((match regOf x with | some v => runParts (setReg o q v) (q + 1) [] (List.replicate (r - (q + 1)) 114 ++ tl) (rest.drop (0 + (q + 1))) | none => none) = R0) := Lib.hid (by
          have h := hrun.out
          rw [show r - q = (r - (q + 1)) + 1 by omega, List.replicate_succ, List.cons_append, List.drop_eq_getElem_cons hlt3, hx, runParts_r] at h
          exact h)
        have p4 : (q : Int) < (r : Int) := by omega
        have p5 : (1 : Int) + (q : Int) < (rest.length : Int) + 1 := by omega
        have p6 : (0 : Int) ≤ (1 : Int) + (q : Int) := by omega
        have HQ3 : Hid (q ≤ 2) := Lib.hid (by have h := HR3.out; omega)
        have HLT := Lib.hid hlt
        clear hrun hx hlt3 hxl hnb hlt
        cases b with
        | false =>
          rw [if_neg (by simp)] at hreg
          have HF : Hid (none = R) := Lib.hid (by
            have h := hrun2.out
            rw [← hreg] at h
            have h2 := HRm.out
            rw [← h] at h2
            exact h2.trans HRr.out)
          obtain rfl := HF.out
          clear HF HRr HRm hrun2 hreg
          go_wp2_with (go_at_call 115; refine CR.out.mono ?_; rintro e w7 ⟨rfl, rfl⟩)
          go_ret
          exact ⟨rfl, hI.out.bel.mono (Nat.le_of_lt HH.out.lt)⟩
        | true =>
          by_cases hn8 : n < 8
          · rw [if_pos ⟨rfl, hn8⟩] at hreg
            have hrun3 := Lib.hid hrun2.out
            rw [← hreg] at hrun3
            have t8 : decide ((8 : Int) ≤ (n : Int)) = false := by simp; omega
            have hwu : IntKind.u8.wrap (n : Int) = (n : Int) := by rw [IntKind.wrap_u8]; omega
            clear hrun2 hreg hn8
            have hq3 := HQ3.out
            obtain rfl | rfl | rfl : q = 0 ∨ q = 1 ∨ q = 2 := by omega
            · skip
              have q0 := cell_of hXr.out 0
              have f0 := frz_of hXr.out 0
              simp only [List.getElem?_toArray, List.getElem?_cons_zero, List.getElem?_cons_succ] at q0
              have HI2 : Hid (InB w Xo Xf ⟨K, 0, 0, 0, 0, 0⟩ false false r (wr.setCell ⟨Xr, 0, none⟩ (.int .u8 n))) := Lib.hid (by
                have hx := HXr.out
                exact ⟨blk_set_ne hI.out.o (by omega) _ _, blk_set_ne hI.out.f (by omega) _ _, hI.out.bel.setCell (p := ⟨Xr, 0, none⟩) hx.2.2 _⟩)
              have HX2 : Hid ((wr.setCell ⟨Xr, 0, none⟩ (.int .u8 n)).heap[Xr]? = some (.cells #[.int .u8 (setReg o 0 n).a, .int .u8 (setReg o 0 n).b, .int .u8 (setReg o 0 n).d] 121 (0, 0))) := Lib.hid (by
                have := blk_set hXr.out 0 (.int .u8 n)
                simpa [setReg] using this)
              have HO2 : Hid ((setReg o 0 n).k = K ∧ (setReg o 0 n).c = 0 ∧ (setReg o 0 n).n = 0) := Lib.hid (by simpa [setReg] using ho.out)
              have hlq := HLT.out
              clear hI hXr ho hq3
              go_wp2_with (go_at_call 115; refine CR.out.mono ?_; rintro e w7 ⟨rfl, rfl⟩)
              go_roundw
              case rel => exact ⟨1, setReg o 0 n, by first | rfl | go_num, by first | rfl | go_num, by omega, HI2, HX2, HO2, hrun3⟩
              case measure => simp [intOf]; omega
            · skip
              have q0 := cell_of hXr.out 1
              have f0 := frz_of hXr.out 1
              simp only [List.getElem?_toArray, List.getElem?_cons_zero, List.getElem?_cons_succ] at q0
              have HI2 : Hid (InB w Xo Xf ⟨K, 0, 0, 0, 0, 0⟩ false false r (wr.setCell ⟨Xr, 1, none⟩ (.int .u8 n))) := Lib.hid (by
                have hx := HXr.out
                exact ⟨blk_set_ne hI.out.o (by omega) _ _, blk_set_ne hI.out.f (by omega) _ _, hI.out.bel.setCell (p := ⟨Xr, 1, none⟩) hx.2.2 _⟩)
              have HX2 : Hid ((wr.setCell ⟨Xr, 1, none⟩ (.int .u8 n)).heap[Xr]? = some (.cells #[.int .u8 (setReg o 1 n).a, .int .u8 (setReg o 1 n).b, .int .u8 (setReg o 1 n).d] 121 (0, 0))) := Lib.hid (by
                have := blk_set hXr.out 1 (.int .u8 n)
                simpa [setReg] using this)
              have HO2 : Hid ((setReg o 1 n).k = K ∧ (setReg o 1 n).c = 0 ∧ (setReg o 1 n).n = 0) := Lib.hid (by simpa [setReg] using ho.out)
              have hlq := HLT.out
              clear hI hXr ho hq3
              go_wp2_with (go_at_call 115; refine CR.out.mono ?_; rintro e w7 ⟨rfl, rfl⟩)
              go_roundw
              case rel => exact ⟨2, setReg o 1 n, by first | rfl | go_num, by first | rfl | go_num, by omega, HI2, HX2, HO2, hrun3⟩
              case measure => simp [intOf]; omega
            · skip
              have q0 := cell_of hXr.out 2
              have f0 := frz_of hXr.out 2
              simp only [List.getElem?_toArray, List.getElem?_cons_zero, List.getElem?_cons_succ] at q0
              have HI2 : Hid (InB w Xo Xf ⟨K, 0, 0, 0, 0, 0⟩ false false r (wr.setCell ⟨Xr, 2, none⟩ (.int .u8 n))) := Lib.hid (by
                have hx := HXr.out
                exact ⟨blk_set_ne hI.out.o (by omega) _ _, blk_set_ne hI.out.f (by omega) _ _, hI.out.bel.setCell (p := ⟨Xr, 2, none⟩) hx.2.2 _⟩)
              have HX2 : Hid ((wr.setCell ⟨Xr, 2, none⟩ (.int .u8 n)).heap[Xr]? = some (.cells #[.int .u8 (setReg o 2 n).a, .int .u8 (setReg o 2 n).b, .int .u8 (setReg o 2 n).d] 121 (0, 0))) := Lib.hid (by
                have := blk_set hXr.out 2 (.int .u8 n)
                simpa [setReg] using this)
              have HO2 : Hid ((setReg o 2 n).k = K ∧ (setReg o 2 n).c = 0 ∧ (setReg o 2 n).n = 0) := Lib.hid (by simpa [setReg] using ho.out)
              have hlq := HLT.out
              clear hI hXr ho hq3
              go_wp2_with (go_at_call 115; refine CR.out.mono ?_; rintro e w7 ⟨rfl, rfl⟩)
              go_roundw
              case rel => exact ⟨3, setReg o 2 n, by first | rfl | go_num, by first | rfl | go_num, by omega, HI2, HX2, HO2, hrun3⟩
              case measure => simp [intOf]; omega
          · rw [if_neg (fun h => hn8 h.2)] at hreg
            have HF : Hid (none = R) := Lib.hid (by
              have h := hrun2.out
              rw [← hreg] at h
              have h2 := HRm.out
              rw [← h] at h2
              exact h2.trans HRr.out)
            have t8 : decide ((8 : Int) ≤ (n : Int)) = true := by simp; omega
            obtain rfl := HF.out
            clear HF HRr HRm hrun2 hreg hn8
            go_wp2_with (go_at_call 115; refine CR.out.mono ?_; rintro e w7 ⟨rfl, rfl⟩)
            go_ret
            exact ⟨rfl, hI.out.bel.mono (Nat.le_of_lt HH.out.lt)⟩
      · obtain rfl : q = r := by omega
        have hrun2 : Hid (runParts o q [] tl (rest.drop (0 + q)) = R0) := Lib.hid (by
          have h := hrun.out
          rw [Nat.sub_self, List.replicate_zero, List.nil_append] at h
          exact h)
        clear hrun hlt
        have y2 := cell_of hI.out.f 2
        have q0 := cell_of hXr.out 0
        have q1 := cell_of hXr.out 1
        have q2 := cell_of hXr.out 2
        have u2 := cell_of hI.out.o 2
        have u3 := cell_of hI.out.o 3
        have u4 := cell_of hI.out.o 4
        have g2 := frz_of hI.out.o 2
        have g3 := frz_of hI.out.o 3
        have g4 := frz_of hI.out.o 4
        simp only [List.getElem?_toArray, List.getElem?_cons_zero, List.getElem?_cons_succ] at y2 q0 q1 q2 u2 u3 u4
        have HI2 : Hid (∀ W, Below wr.heap.size wr W → InB w Xo Xf o false false q (((W.setCell ⟨Xo, 2, none⟩ (.int .u8 o.a)).setCell ⟨Xo, 3, none⟩ (.int .u8 o.b)).setCell ⟨Xo, 4, none⟩ (.int .u8 o.d))) := Lib.hid (fun W hb => by
          have hI2 := hI.out.below hb
          refine ⟨?_, blk_set_ne (blk_set_ne (blk_set_ne hI2.f (Nat.ne_of_gt HXf.out) _ _) (Nat.ne_of_gt HXf.out) _ _) (Nat.ne_of_gt HXf.out) _ _, ((hI2.bel.setCell (p := ⟨Xo, 2, none⟩) HXo.out _).setCell (p := ⟨Xo, 3, none⟩) HXo.out _).setCell (p := ⟨Xo, 4, none⟩) HXo.out _⟩
          have := blk_set (blk_set (blk_set hI2.o 2 (.int .u8 o.a)) 3 (.int .u8 o.b)) 4 (.int .u8 o.d)
          rw [ho.out.1, ho.out.2.1, ho.out.2.2]
          simpa using this)
        have HNE : Hid (Xr ≠ Xo) := Lib.hid (Nat.ne_of_gt HXr.out.1)
        have hne := HNE.out
        clear hI hXr
        clear hV
        go_wp2_with fail
        go_region
        obtain ⟨w8, hw8⟩ : ∃ w8, (((wr.setCell ⟨Xo, 2, none⟩ (.int .u8 o.a)).setCell ⟨Xo, 3, none⟩ (.int .u8 o.b)).setCell ⟨Xo, 4, none⟩ (.int .u8 o.d)).drew = w8 := ⟨_, rfl⟩
        have HI8 : Hid (InB w Xo Xf o false false q w8) := Lib.hid (by rw [← hw8]; exact (HI2.out wr (Below.refl _ _)).below (Below.refl _ _).drew)
        simp only [hw8]
        clear hw8 HI2 y1 y2 q0 q1 q2 u2 u3 u4 g2 g3 g4 hne HNE
        have y2 := cell_of HI8.out.f 2
        have z0 := cell_of HI8.out.o 0
        have z1 := cell_of HI8.out.o 1
        have z2 := cell_of HI8.out.o 2
        have z3 := cell_of HI8.out.o 3
        have z4 := cell_of HI8.out.o 4
        have z5 := cell_of HI8.out.o 5
        have f5 := frz_of HI8.out.o 5
        simp only [List.getElem?_toArray, List.getElem?_cons_zero, List.getElem?_cons_succ] at y2 z0 z1 z2 z3 z4 z5
        have HB8 : Hid (Below RB w w8) := Lib.hid (HI8.out.bel.mono (Nat.le_of_lt HH.out.lt))
        have HR8 := Lib.hid (HH.out.below HI8.out.bel)
        have HO8 := Lib.hid HI8.out.o
        have htl0 : tl = [] := by have h := HTl.out; rw [if_neg (by decide)] at h; exact h.symm
        have HFin : Hid ((if okV o = true then some (⟨ops ++ [o], labs.zip plcs, gls⟩ : Rd) else none) = R) := Lib.hid (by
          have h := HRm.out
          rw [← hrun2.out, htl0, runParts_nil] at h
          have h2 := h.trans HRr.out
          simpa [insEnd] using h2)
        have HW0 : Hid (0 ≤ o.c ∧ -9223372036854775808 ≤ o.n ∧ o.n ≤ 9223372036854775807) := Lib.hid (by rw [ho.out.2.1, ho.out.2.2]; exact ⟨Int.le_refl 0, by decide⟩)
        have HO3 := HO8
        have HR3f := HR8
        have HB3 := HB8
        clear htl0 hrun2
        rw [show o = ⟨o.k, o.c, o.a, o.b, o.d, o.n⟩ from rfl] at HFin
        have HVB := Lib.hid (fun k hk => (HH.out.ops.lt k hk).2)
        have CC := Lib.hid (fun W => rcheck_any o.k o.c o.a o.b o.d o.n HW0.out.1 HW0.out.2 W)
        obtain ⟨oo, hoo⟩ : ∃ oo : Cmd, (⟨o.k, o.c, o.a, o.b, o.d, o.n⟩ : Cmd) = oo := ⟨_, rfl⟩
        have HOO := Lib.hid hoo
        rw [hoo] at CC HFin
        clear hoo HW0
        cases hok : okV oo with
        | false =>
          have hE : okE oo = 1 := by unfold okE; rw [hok]; rfl
          rw [hE] at CC
          have HF : Hid (none = R) := Lib.hid (by have h := HFin.out; rw [hok, if_neg (by decide)] at h; exact h)
          obtain rfl := HF.out
          clear HF HFin hE hok HRm HRr
          go_wp2_with (first | (fail) | (go_at_call 117; refine (CC.out _).mono ?_; rintro e w9 ⟨rfl, hb9⟩))
          go_ret
          exact ⟨rfl, HB3.out.trans (hb9.mono (Nat.le_of_lt HR3f.out.lt))⟩
        | true =>
          have hE : okE oo = 0 := by unfold okE; rw [hok]; rfl
          rw [hE] at CC
          have HF : Hid (some (⟨ops ++ [oo], labs.zip plcs, gls⟩ : Rd) = R) := Lib.hid (by have h := HFin.out; rw [hok, if_pos rfl] at h; exact h)
          obtain rfl := HF.out
          obtain ⟨i0, hi0, hz0, hz1, hz2⟩ := info_parts infoOp
          clear HF HFin hE hok HRm HRr
          go_wp2_with (first | (fail) | (go_at_call 117; refine (CC.out _).mono ?_; rintro e w9 ⟨rfl, hb9⟩; have HR9 := Lib.hid (HR3f.out.below hb9); have HO9 := Lib.hid (blk_below HO3.out hb9); have HB9 := Lib.hid (HB3.out.trans (hb9.mono (Nat.le_of_lt HR3f.out.lt)))))
          obtain ⟨Ao, co, hvo⟩ := own_slice HR9.out.ops
          rw [hvo] at HR9
          have HXk : Hid (∀ w4 w5 : World, Below w9.heap.size w9 w4 → w4.grownBy w5 (Value.slice Ao ops.length co).ownBlock → w5.heap[Xo]? = w9.heap[Xo]?) := Lib.hid fun w4 w5 hb hg => by
            have hlt : Xo < w9.heap.size := (Array.getElem?_eq_some_iff.1 HO9.out).1
            have hlo := HVB.out
            have hx := HXo.out
            rw [hg.block Xo (Nat.lt_of_lt_of_le hlt hb.size) (fun e => by have := hlo Xo (by rw [hvo]; exact e.symm); omega), hb.block Xo hlt]
          have hO9 := HO9.out
          rw [show (.cells #[.int .u8 o.k, .int .u8 o.c, .int .u8 o.a, .int .u8 o.b, .int .u8 o.d, .int .i64 o.n] 79 (0, 0) : Obj) = .cells #[.int .u8 oo.k, .int .u8 oo.c, .int .u8 oo.a, .int .u8 oo.b, .int .u8 oo.d, .int .i64 oo.n] 79 (0, 0) by rw [← HOO.out]] at hO9
          have HO10 := Lib.hid hO9
          have HSa : Hid (∀ W, Below w9.heap.size w9 W → ApS RB Xo (.slice Ao ops.length co) oo W) := Lib.hid fun W hb => aps_of (cell_of (HR9.out.below hb).blk 0) (blk_below HO10.out hb)
          have HRo := Lib.hid (fun W (hb : Below w9.heap.size w9 W) => (HR9.out.below hb).ops)
          have HA := Lib.hid (fun (w4 w5 : World) (v' : Value) hb hg ho => HR9.out.appOps (w4 := w4) (w5 := w5) (v' := v') oo hb hg ho)
          have HBs : Hid (RB ≤ w9.heap.size) := Lib.hid (Nat.le_of_lt HR9.out.lt)
          clear hO9 hvo hb9 z0 z1 z2 z3 z4 z5 f5 y2
          go_wp2_with fail
          refine wp_region_L (l := 10) (S := (ApS RB Xo (.slice Ao ops.length co) oo)) (by kernel_rfl) ?_ (fun hHeld => ?_)
          · ((try dsimp only); (exact HSa.out _ (Below.refl _ _).drew))
          refine wpAnyL_take (i := 0) (oi := _) (v := ?v12) rfl (by kernel_rfl) (fun _ _ _ h => h) (by assumption) (Or.inl ⟨by kernel_rfl, ?y12⟩) ?r12
          case y12 => (intro w hSw; (try dsimp only at hSw); go_simp; all_goals with_reducible rfl)
          try simp only [List.getElem_toArray, List.getElem_cons_zero, List.getElem_cons_succ, Act.put, List.setIfInBounds_toArray, List.set_cons_zero, List.set_cons_succ]
          refine wpAnyL_take (i := 1) (oi := _) (v := ?v13) rfl (by kernel_rfl) (fun _ _ _ h => h) (by assumption) (Or.inl ⟨by kernel_rfl, ?y13⟩) ?r13
          case y13 => (intro w hSw; (try dsimp only at hSw); go_simp; all_goals with_reducible rfl)
          try simp only [List.getElem_toArray, List.getElem_cons_zero, List.getElem_cons_succ, Act.put, List.setIfInBounds_toArray, List.set_cons_zero, List.set_cons_succ]
          refine wpAnyL_take (i := 2) (oi := _) (v := ?v14) rfl (by kernel_rfl) (fun _ _ _ h => h) (by assumption) (Or.inl ⟨by kernel_rfl, ?y14⟩) ?r14
          case y14 => (intro w hSw; (try dsimp only at hSw); go_simp; all_goals with_reducible rfl)
          try simp only [List.getElem_toArray, List.getElem_cons_zero, List.getElem_cons_succ, Act.put, List.setIfInBounds_toArray, List.set_cons_zero, List.set_cons_succ]
          refine wpAnyL_take (i := 3) (oi := _) (v := ?v15) rfl (by kernel_rfl) (fun _ _ _ h => h) (by assumption) (Or.inl ⟨by kernel_rfl, ?y15⟩) ?r15
          case y15 => (intro w hSw; (try dsimp only at hSw); go_simp; all_goals with_reducible rfl)
          try simp only [List.getElem_toArray, List.getElem_cons_zero, List.getElem_cons_succ, Act.put, List.setIfInBounds_toArray, List.set_cons_zero, List.set_cons_succ]
          refine wpAnyL_take (i := 4) (oi := _) (v := ?v16) rfl (by kernel_rfl) (fun _ _ _ h => h) (by assumption) (Or.inl ⟨by kernel_rfl, ?y16⟩) ?r16
          case y16 => (intro w hSw; (try dsimp only at hSw); go_simp; all_goals with_reducible rfl)
          try simp only [List.getElem_toArray, List.getElem_cons_zero, List.getElem_cons_succ, Act.put, List.setIfInBounds_toArray, List.set_cons_zero, List.set_cons_succ]
          refine wpAnyL_take (i := 5) (oi := _) (v := ?v17) rfl (by kernel_rfl) (fun _ _ _ h => h) (by assumption) (Or.inl ⟨by kernel_rfl, ?y17⟩) ?r17
          case y17 => (intro w hSw; (try dsimp only at hSw); go_simp; all_goals with_reducible rfl)
          try simp only [List.getElem_toArray, List.getElem_cons_zero, List.getElem_cons_succ, Act.put, List.setIfInBounds_toArray, List.set_cons_zero, List.set_cons_succ]
          refine wpAnyL_step (j := 6) (o := _) (by kernel_rfl) rfl (fun K hK => ?_)
          (go_simp; have hB4 := Lib.hid (fun o => ((Below.refl w9.heap.size w9).drew).alloc (Nat.le_refl _) o))
          refine hK _ _ ?_ (fun hHeld => ?_)
          · ((try dsimp only); (exact HSa.out _ (hB4.out _)))
          clear hK K
          try simp only [List.getElem_toArray, List.getElem_cons_zero, List.getElem_cons_succ, Act.put, List.setIfInBounds_toArray, List.set_cons_zero, List.set_cons_succ]
          refine wpAnyL_step (j := 7) (o := _) (by kernel_rfl) rfl (fun K hK => ?_)
          (refine wp_append_own_at _ _ 22 rfl RB 79 i0 _ 6 16 Tryz.underlying22 hi0 hz0 hz1 hz2 rfl (by decide) (.slice Ao ops.length co) ops.length (ops.flatMap Cmd.cells) rfl (HRo.out _ (hB4.out _)) ⟨w9.heap.size, 0, none⟩ 1 1 oo.cells rfl rfl (World.news_of_block (heap_alloc_new w9.drew _)) (by simp [Cmd.cells, Value.oneCell']) (by have := HNum.out; unfold maxLen; omega) (by have := HNum.out; omega) (Nat.le_trans HBs.out (hB4.out _).size) ?_; intro v' w5 hown' hgrow hat; obtain ⟨gg, cp, rfl⟩ : ∃ gg cp, v' = .slice (some ⟨gg, 0, none⟩) (ops.length + 1) cp := (hown'.2.elim (fun h => absurd h.2 (by omega)) (fun ⟨gg, cp, cur, h, _⟩ => ⟨gg, cp, h⟩)); have hG := Lib.hid (HA.out _ _ _ (hB4.out _) hgrow hown'); have hXX := Lib.hid ((HXk.out _ _ (hB4.out _) hgrow).trans HO10.out); obtain ⟨⟨c0, f0⟩, -⟩ := hG.out; clear hown' hgrow hat)
          refine hK _ _ ?_ (fun hHeld => ?_)
          · ((try dsimp only); (exact aps_of hG.out.2.1.1 hXX.out))
          clear hK K
          try simp only [List.getElem_toArray, List.getElem_cons_zero, List.getElem_cons_succ, Act.put, List.setIfInBounds_toArray, List.set_cons_zero, List.set_cons_succ]
          refine wpAnyL_take (i := 8) (oi := _) (v := ?v20) rfl (by kernel_rfl) (fun _ _ _ h => h) (by assumption) (Or.inl ⟨by kernel_rfl, ?y20⟩) ?r20
          case y20 => (intro w hSw; (try dsimp only at hSw); go_simp; all_goals with_reducible rfl)
          try simp only [List.getElem_toArray, List.getElem_cons_zero, List.getElem_cons_succ, Act.put, List.setIfInBounds_toArray, List.set_cons_zero, List.set_cons_succ]
          refine wpAnyL_take (i := 9) (oi := _) (v := ?v21) rfl (by kernel_rfl) (fun _ _ _ h => h) (by assumption) (Or.inl ⟨by kernel_rfl, ?y21⟩) ?r21
          case y21 => (intro w hSw; (try dsimp only at hSw); go_simp; all_goals with_reducible rfl)
          try simp only [List.getElem_toArray, List.getElem_cons_zero, List.getElem_cons_succ, Act.put, List.setIfInBounds_toArray, List.set_cons_zero, List.set_cons_succ]
          refine wpAnyL_last (j := 10) (o := _) (by kernel_rfl) rfl (by rfl) (by kernel_rfl) (fun K hK => ?_)
          go_simp
          (refine hK _ _ ?_; clear hK K)
          try simp only [List.getElem_toArray, List.getElem_cons_zero, List.getElem_cons_succ, Act.put, List.setIfInBounds_toArray, List.set_cons_zero, List.set_cons_succ]
          have hR5 := Lib.hid hG.out.2.2.1
          have hB5 := Lib.hid hG.out.2.2.2
          clear hG HSa HRo HA hB4 c0 f0 hHeld hi0 hz0 hz1 hz2 hXX HXk
          go_wp2_with fail
          go_ret
          exact ⟨⟨rfl, _, _, hR5.out⟩, HB9.out.trans hB5.out⟩
  · have t1 : (((rest.length : Int) + 1) != V1) = true := bne_at (by rw [hVV.out.1]; simp; omega)
    clear hVV
    have HF : Hid (none = R) := Lib.hid (by have h := HRr.out; rw [if_neg (by simp [htn, hl])] at h; exact h)
    obtain rfl := HF.out
    clear HF HRr
    obtain ⟨hV1, hV2⟩ := HV12.out
    go_wp2_with fail
    go_ret
    exact ⟨rfl, HI4.out.bel.mono (Nat.le_of_lt HH.out.lt)⟩

end Go.Proofs.YtkkcngppmhebbaaGreatDoor
