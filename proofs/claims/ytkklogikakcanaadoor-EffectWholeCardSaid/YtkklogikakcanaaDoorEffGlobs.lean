/-
  What the row lists of the variables: the program's own variable number as a fact on a world; and a world that holds it, for the witness.
-/
import Derived.Test.YtkklogikakcanaaDoorRows
import Derived.Test.YtkklogikakcanaaDoorEffR
import Derived.WalkKit
import Derived.WalkSmall
import Derived.Stop.LaidErr
import Derived.Lib.LaidTab
import Derived.Deep.DeepWitnessRowRef
import Derived.Deep.DeepLaidRun
import Derived.MakeChecks
set_option linter.unusedVariables false
set_option linter.unusedSimpArgs false
namespace Go.Proofs.YtkklogikakcanaaDoor
open Go.RowKit

theorem var_lt {w : World} {n : String} {g : Nat} {cs : Array Value} (hg : Tryd.prog.globalNamed n = some g) (h : w.var? Tryd.prog n = some cs) : g < w.heap.size := by
  unfold World.var? at h
  rw [hg] at h
  rcases Nat.lt_or_ge g w.heap.size with hlt | hge
  · exact hlt
  · simp [Array.getElem?_eq_none hge] at h
/-- the variable number -/
theorem gNU : Tryd.prog.globalNamed "turnstile/scope.number" = some 0 := by kernel_rfl
theorem gNUT : (Tryd.prog.globals[0]?).map (·.type) = some 149 := by kernel_rfl
theorem soFields : ∃ fs : Array Field, Tryd.prog.underlying 149 = some (.struct fs) ∧ Tryd.prog.cellsOf 149 = 4 ∧ fs.size = 2 ∧ ∃ f0 f1, fs[0]? = some f0 ∧ fs[1]? = some f1 ∧
    (f0.offset = 0 ∧ Tryd.prog.cellsOf f0.type = 3 ∧ f0.type = 40) ∧ (f1.offset = 3 ∧ Tryd.prog.cellsOf f1.type = 1 ∧ Tryd.prog.underlying f1.type = some .bool) :=
  ⟨_, Tryd.underlying149, by kernel_rfl, rfl, _, _, rfl, rfl, ⟨by kernel_rfl, by kernel_rfl, by kernel_rfl⟩, ⟨by kernel_rfl, by kernel_rfl, by kernel_rfl⟩⟩
theorem ty3Fields : ∃ fs : Array Field, Tryd.prog.underlying 40 = some (.struct fs) ∧ Tryd.prog.cellsOf 40 = 3 ∧ fs.size = 3 ∧ ∃ f0 f1 f2, fs[0]? = some f0 ∧ fs[1]? = some f1 ∧ fs[2]? = some f2 ∧
    (f0.offset = 0 ∧ Tryd.prog.cellsOf f0.type = 1 ∧ Tryd.prog.underlying f0.type = some (.int .u8)) ∧ (f1.offset = 1 ∧ Tryd.prog.cellsOf f1.type = 1 ∧ Tryd.prog.underlying f1.type = some .string) ∧ (f2.offset = 2 ∧ Tryd.prog.cellsOf f2.type = 1 ∧ Tryd.prog.underlying f2.type = some (.int .i64)) :=
  ⟨_, Tryd.underlying40, by kernel_rfl, rfl, _, _, _, rfl, rfl, rfl, ⟨by kernel_rfl, by kernel_rfl, by kernel_rfl⟩, ⟨by kernel_rfl, by kernel_rfl, by kernel_rfl⟩, ⟨by kernel_rfl, by kernel_rfl, by kernel_rfl⟩⟩
theorem num_of_tail {W : World} {rest : List (String × DataW Unit)} (h : laidMet Tryd.prog (("turnstile/scope.number", Rows.laid_turnstile_scope_number) :: rest) W) :
    W.cell? ⟨0, 0, none⟩ = some (.int .u8 1) ∧ W.cell? ⟨0, 1, none⟩ = some (.string ⟨([] : List UInt8).toArray⟩) ∧ W.cell? ⟨0, 2, none⟩ = some (.int .i64 0) ∧ W.cell? ⟨0, 3, none⟩ = some (.bool false) ∧ 0 < W.heap.size := by
  obtain ⟨ps, ⟨g', t', cs, fuel, p, q, hg', ht', hvar, hd, _, _⟩, _⟩ := h
  obtain rfl := Option.some.inj (gNU.symm.trans hg')
  obtain rfl := Option.some.inj (gNUT.symm.trans ht')
  have hlt := var_lt gNU hvar
  obtain ⟨fs, ut, hC, hsz, f0, f1, g0, g1, ⟨o0, c0, u0⟩, ⟨o1, c1, u1⟩⟩ := soFields
  obtain ⟨xs, n, hf, hx, hl, hxl, hget⟩ := DataW.trod_struct ut hd
  rw [hC] at hl
  rw [hsz] at hxl
  obtain ⟨v0, v1, v2, v3, hcs⟩ : ∃ v0 v1 v2 v3, cs.toList = [v0, v1, v2, v3] := by
    generalize cs.toList = l at hl
    match l, hl with
    | [v0, v1, v2, v3], _ => exact ⟨_, _, _, _, rfl⟩
  obtain ⟨x0, x1, rfl⟩ : ∃ x0 x1, xs = [x0, x1] := by
    match xs, hxl with
    | [x0, x1], _ => exact ⟨_, _, rfl⟩
  have h0 := hget 0 f0 g0
  have h1 := hget 1 f1 g1
  rw [o0, c0, hcs, u0] at h0
  rw [o1, c1, hcs] at h1
  simp only [List.drop_zero, List.drop_succ_cons, List.take_succ_cons, List.take_zero, List.getElem?_cons_zero, List.getElem?_cons_succ] at h0 h1
  obtain ⟨b, e3, k3⟩ := DataW.trod_bool u1 h1
  obtain ⟨fs2, ut2, hC2, hsz2, d0, d1, d2, i0, i1, i2, ⟨oo0, cc0, uu0⟩, ⟨oo1, cc1, uu1⟩, ⟨oo2, cc2, uu2⟩⟩ := ty3Fields
  obtain ⟨ys, n2, hf2, hy, hl2, hyl, hget2⟩ := DataW.trod_struct ut2 h0
  rw [hsz2] at hyl
  obtain ⟨y0, y1, y2, rfl⟩ : ∃ y0 y1 y2, ys = [y0, y1, y2] := by
    match ys, hyl with
    | [y0, y1, y2], _ => exact ⟨_, _, _, rfl⟩
  have r0 := hget2 0 d0 i0
  have r1 := hget2 1 d1 i1
  have r2 := hget2 2 d2 i2
  rw [oo0, cc0] at r0
  rw [oo1, cc1] at r1
  rw [oo2, cc2] at r2
  simp only [List.drop_zero, List.drop_succ_cons, List.take_succ_cons, List.take_zero, List.getElem?_cons_zero, List.getElem?_cons_succ] at r0 r1 r2
  obtain ⟨a0, e0, k0, -⟩ := DataW.trod_int uu0 r0
  obtain ⟨s1, e1, k1, -⟩ := DataW.trod_string uu1 r1
  obtain ⟨a2, e2, k2, -⟩ := DataW.trod_int uu2 r2
  subst k0 k1 k2 k3 hy
  unfold Rows.laid_turnstile_scope_number at hx
  simp only [List.map_cons, List.map_nil, Prod.mk.injEq, DataW.agg.injEq, List.cons.injEq, DataW.lit.injEq, Lit.int.injEq, Lit.string.injEq, Lit.bool.injEq, true_and, and_true] at hx
  obtain ⟨⟨⟨q0, q1, q2⟩, q3⟩, -⟩ := hx
  simp only [List.cons.injEq, and_true] at e0 e1 e2 e3
  have hv : cs = #[.int .u8 1, .string ⟨([] : List UInt8).toArray⟩, .int .i64 0, .bool false] := by
    apply Array.toList_inj.1
    rw [hcs, e0, e1, e2, e3, ← q0, ← q2, ← q3]
    have hs : s1 = ⟨([] : List UInt8).toArray⟩ := by
      obtain ⟨⟨l⟩⟩ := s1
      rw [show l = [] from q1.symm]
    rw [hs]
  subst hv
  exact ⟨World.var?_cell gNU hvar 0, World.var?_cell gNU hvar 1, World.var?_cell gNU hvar 2, World.var?_cell gNU hvar 3, hlt⟩
/-! ### a world that holds it -/
def put (g : Nat) (cs : Array Value) (h : Array Obj) : Array Obj := h.modify g fun
  | .cells _ t frozen => .cells cs t frozen
  | o => o
noncomputable def laidWorld (os : Os) : World :=
  let w0 := World.holding Tryd.prog os ⟨#[], #[], []⟩
  { w0 with heap := put 0 #[.int .u8 1, .string ⟨#[]⟩, .int .i64 0, .bool false] w0.heap }
theorem laid_met (os : Os) (args : Array Value) : laidMetH Tryd.prog Rows.effectWholeRow.laid ((laidWorld os).forCall (fun _ _ => 0) ⟨#[], args, []⟩).memory := by
  rw [MakeChecks.laidMetH_plain _ _ _ (by kernel_rfl)]
  exact laidMet_of_run3 8 (by kernel_rfl) (by kernel_rfl) (by kernel_rfl)
theorem efG_of {W : World} (hL : laidMetH Tryd.prog Rows.effectWholeRow.laid W) (hSh : W.ShapedOpen Tryd.prog) : EfGl W.heap.size W := by
  rw [MakeChecks.laidMetH_plain _ _ _ (by kernel_rfl)] at hL
  have h1 : laidMet Tryd.prog (("turnstile/scope.number", Rows.laid_turnstile_scope_number) :: []) W := hL
  obtain ⟨h0, h1, h2, h3, h4⟩ := num_of_tail h1
  exact ⟨GlB.of (lglobs_of hSh), ⟨h0, h1, h2, h3, h4⟩⟩
end Go.Proofs.YtkklogikakcanaaDoor
