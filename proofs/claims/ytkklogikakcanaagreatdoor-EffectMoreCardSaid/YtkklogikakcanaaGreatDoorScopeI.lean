import Derived.Test.YtkklogikakcanaaGreatDoorScopeG
set_option linter.unusedVariables false
set_option linter.unusedSimpArgs false
open List renaming getElem?_toArray → sl7, getElem?_cons_zero → sl8
namespace Go.Proofs.YtkklogikakcanaaGreatDoor
open Go Go.Maps Go.RowKit
def metG (met : List (List UInt8)) (nm : List UInt8) : Option Nat := if nm ∈ met then some 1 else none
def MetAt (w : World) (m n : Nat) (met : List (List UInt8)) : Prop := ValMap Tryz.prog 9 w m n (intF (metG met))
theorem metG_step (nm : List UInt8) (met : List (List UInt8)) (y : Lit) : updL (.string nm) (.int .i64 1) (intF (metG met)) y = intF (metG (nm :: met)) y := by
 unfold intF
 rw [updL_nm]
 congr 1
 funext k
 unfold metG
 by_cases h : k = nm
 ·subst h; simp
 ·by_cases h2 : k ∈ met
  ·simp [h, h2]
  ·simp [h, h2]
theorem Kept.grown {w w' : World} {m : Nat} (hg : w.grownBy w' (some m)) : Kept (fun k => k = m) w w' :=
 ⟨hg.os, hg.tape, hg.output, hg.size, fun k hk hs => hg.block k hk (fun e => hs (by cases e; rfl))⟩
theorem met_first (P : Program) (w : World) : ValMap P 9 (w.alloc (.map #[] 0)) w.heap.size 0 (intF (metG [])) := (ValMap.made P _ w).congr fun l => by
 unfold intF nmL metG
 cases l <;> first | rfl | (simp; done)
section
variable {w : World} {m n : Nat} {met : List (List UInt8)} {nm : List UInt8}
theorem met_look {f : List UInt8 → Option Nat} (h : ValMap Tryz.prog 9 w m n (intF f)) (hl : lenOk nm.length) :
  (Instr.lookup 168 (.map (some m)) (.string ⟨nm.toArray⟩) false).run Tryz.prog w = .ok (.int .i64 (((f nm).getD 0 : Nat) : Int)) w := by
 have := ValMap.look1 h strK Tryz.underlying168 (z := .int .i64 0) (by kernel_rfl) (str_key hl)
 rw [this]
 unfold intF nmL
 dsimp only
 cases f nm <;> rfl
theorem met_new (h : MetAt w m n met) (hn : n < maxLen) (hl : lenOk nm.length) (hx : nm ∉ met) :
  (Instr.lookup 168 (.map (some m)) (.string ⟨nm.toArray⟩) false).run Tryz.prog w = .ok (.int .i64 0) w ∧
  ∃ w2, (Instr.mapUpdate 168 (.map (some m)) (.string ⟨nm.toArray⟩) (.int .i64 1)).run Tryz.prog w = .ok () w2 ∧
   (Instr.lookup 168 (.map (some m)) (.string ⟨nm.toArray⟩) false).run Tryz.prog w2 = .ok (.int .i64 1) w2 ∧ MetAt w2 m (n + 1) (nm :: met) ∧ Kept (fun k => k = m) w w2 := by
 have h1 := met_look h hl
 have e1 : metG met nm = none := if_neg hx
 rw [e1] at h1
 refine ⟨h1, ?_⟩
 obtain ⟨w2, r2, m2, g2⟩ := ValMap.put h strK Tryz.underlying168 hn (v := .int .i64 1) (str_key hl)
 have m3 : MetAt w2 m (n + 1) (nm :: met) := m2.congr (metG_step nm met)
 have h2 := met_look m3 hl
 have e2 : metG (nm :: met) nm = some 1 := if_pos (by simp)
 rw [e2] at h2
 exact ⟨w2, r2, h2, m3, Kept.grown g2⟩
theorem met_old (h : MetAt w m n met) (hn : n < maxLen) (hl : lenOk nm.length) (hx : nm ∈ met) :
  (Instr.lookup 168 (.map (some m)) (.string ⟨nm.toArray⟩) false).run Tryz.prog w = .ok (.int .i64 1) w ∧
  ∃ w2, (Instr.mapUpdate 168 (.map (some m)) (.string ⟨nm.toArray⟩) (.int .i64 2)).run Tryz.prog w = .ok () w2 ∧
   (Instr.lookup 168 (.map (some m)) (.string ⟨nm.toArray⟩) false).run Tryz.prog w2 = .ok (.int .i64 2) w2 ∧ Kept (fun k => k = m) w w2 := by
 have h1 := met_look h hl
 have e1 : metG met nm = some 1 := if_pos hx
 rw [e1] at h1
 refine ⟨h1, ?_⟩
 obtain ⟨w2, r2, m2, g2⟩ := ValMap.put h strK Tryz.underlying168 hn (v := .int .i64 2) (str_key hl)
 have h2 := ValMap.look1 m2 strK Tryz.underlying168 (z := .int .i64 0) (by kernel_rfl) (str_key hl)
 rw [updL_same] at h2
 exact ⟨w2, r2, h2, Kept.grown g2⟩
end
def DeEnds (m n : Nat) (met : List (List UInt8)) (nm : List UInt8) (e : Ending) (w' : World) : Prop :=
 (nm ∈ met ∧ e = faultS 8) ∨ (nm ∉ met ∧ e = .returned (.tuple #[]) ∧ MetAt w' m (n + 1) (nm :: met))
set_option maxHeartbeats 4000000 in
theorem declare_any (m n c : Nat) (met : List (List UInt8)) (nm : List UInt8) (w : World) (h : MetAt w m n met) (hn : n < maxLen) (hl : lenOk nm.length) (hc : w.heap[c]? = some (.cells #[.map (some m)] 168 (0, 0))) (hcm : c ≠ m) :
  Calls Tryz.prog 115 #[.string ⟨nm.toArray⟩, .pointer (some ⟨c, 0, none⟩)] w fun e w' => DeEnds m n met nm e w' ∧ Kept (fun k => k = m) w w' := by
 have c0 := cell_at hc 0
 simp only [sl7, sl8] at c0
 by_cases hx : nm ∈ met
 ·obtain ⟨l1, w2, r2, l2, k2⟩ := met_old h hn hl hx
  have d0 := cell_at ((k2.block c (lt_blk hc) hcm).trans hc) 0
  simp only [sl7, sl8] at d0
  have HK := Lib.hid k2
  clear k2 h hn hl hc hcm
  go_enter Tryz.func115, Tryz.ntmps115
  go_wp2_with fail
  refine (swant_no 8 _).mono ?_
  rintro e w99 ⟨rfl, rfl⟩
  exact ⟨rfl, Or.inl ⟨hx, rfl⟩, HK.out⟩
 ·obtain ⟨l1, w2, r2, l2, m2, k2⟩ := met_new h hn hl hx
  have d0 := cell_at ((k2.block c (lt_blk hc) hcm).trans hc) 0
  simp only [sl7, sl8] at d0
  have HK := Lib.hid k2
  have HM := Lib.hid m2
  clear k2 m2 h hn hl hc hcm
  go_enter Tryz.func115, Tryz.ntmps115
  go_wp2_with fail
  refine (swant_yes 8 _).mono ?_
  rintro e w99 ⟨rfl, rfl⟩
  go_wp2_with fail
  go_end0
  exact ⟨Or.inr ⟨hx, rfl, HM.out⟩, HK.out⟩
structure PgS (B Kb Rb Fb Sb Pb m c : Nat) (p : Pr) (q : Int) (n : Nat) (met : List (List UInt8)) (w0 W : World) : Prop where
 sp0 : ∃ q0, ScP B Kb Rb Fb Sb Pb p q0 w0
 hk : Kq Pb w0 W
 pl : PlAt Pb q W
 me : MetAt W m n met
 hc : W.heap[c]? = some (.cells #[.map (some m)] 168 (0, 0))
 hm : m ≠ Pb
 hcP : c ≠ Pb
 hcm : c ≠ m
 h0m : w0.heap.size ≤ m
section
variable {B Kb Rb Fb Sb Pb m c n : Nat} {p : Pr} {q q2 : Int} {met met2 : List (List UInt8)} {w0 W W' : World}
theorem PgS.sp (h : PgS B Kb Rb Fb Sb Pb m c p q n met w0 W) : ScP B Kb Rb Fb Sb Pb p q W := by
 obtain ⟨q0, hs⟩ := h.sp0
 exact hs.kept h.hk h.pl
theorem PgS.kept (h : PgS B Kb Rb Fb Sb Pb m c p q n met w0 W) (hk : Kq Pb W W') (hp : PlAt Pb q2 W') : PgS B Kb Rb Fb Sb Pb m c p q2 n met w0 W' :=
 ⟨h.sp0, h.hk.trans hk, hp, ValMap.of_block h.me (hk.block m (ValMap.lt h.me) h.hm), (hk.block c (lt_blk h.hc) h.hcP).trans h.hc, h.hm, h.hcP, h.hcm, h.h0m⟩
theorem PgS.below (h : PgS B Kb Rb Fb Sb Pb m c p q n met w0 W) (hb : Below W.heap.size W W') : PgS B Kb Rb Fb Sb Pb m c p q n met w0 W' := h.kept (Kept.of_below hb) ((hb.block Pb h.pl.lt).trans h.pl)
theorem PgS.step (h : PgS B Kb Rb Fb Sb Pb m c p q n met w0 W) : PgS B Kb Rb Fb Sb Pb m c p (q + 1) n met w0 (W.setCell ⟨Pb, 0, none⟩ (.int .i64 (q + 1))) :=
 h.kept (Kept.setCell (S := fun k => k = Pb) (Kept.refl _ _) (p := ⟨Pb, 0, none⟩) (Or.inl rfl) _) (h.pl.set (q + 1))
theorem PgS.put {n2 : Nat} (h : PgS B Kb Rb Fb Sb Pb m c p q n met w0 W) (hk : Kept (fun k => k = m) W W') (hm : MetAt W' m n2 met2) : PgS B Kb Rb Fb Sb Pb m c p q n2 met2 w0 W' :=
 ⟨h.sp0, h.hk.new (hk.mono fun k _ e => Or.inr (by rw [e]; exact h.h0m)), (hk.block Pb h.pl.lt (fun e => h.hm e.symm)).trans h.pl, hm, (hk.block c (lt_blk h.hc) h.hcm).trans h.hc, h.hm, h.hcP, h.hcm, h.h0m⟩
theorem PgS.kq (h : PgS B Kb Rb Fb Sb Pb m c p q n met w0 W) (hk : Kept (fun k => k = m) W W') : Kq Pb w0 W' ∧ PlAt Pb q W' :=
 ⟨h.hk.new (hk.mono fun k _ e => Or.inr (by rw [e]; exact h.h0m)), (hk.block Pb h.pl.lt (fun e => h.hm e.symm)).trans h.pl⟩
end
theorem Sc.bind_assoc (c : Sc) (f g : Int → Sc) : (c.bind f).bind g = c.bind fun a => (f a).bind g := by cases c <;> rfl
end Go.Proofs.YtkklogikakcanaaGreatDoor
