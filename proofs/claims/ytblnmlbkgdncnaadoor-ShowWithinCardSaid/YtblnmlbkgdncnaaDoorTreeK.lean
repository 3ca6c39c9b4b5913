/-
  A load of a whole row's part, a store into a fresh row: one step each.
-/
import Derived.Test.YtblnmlbkgdncnaaDoorTreeI
import Derived.Laws.Rows
import Derived.Laws.Tables
import Derived.Laws.Cells
set_option linter.unusedVariables false
set_option linter.unusedSimpArgs false
namespace Go.Proofs.YtblnmlbkgdncnaaDoor
open Go.RowKit

section
variable {P : Program}
theorem run_loadVar_list (w : World) (a : Addr) (ty : TypeId) (vs : List Value) (d : TypeDesc) (hc : ∀ j v, vs[j]? = some v → w.cell? (a.add j) = some v)
    (hu : P.underlying ty = some d) (hd : (match d with | .struct _ | .array _ _ => true | _ => false) = true) (hi : (P.info? ty).map (·.size) = some vs.length) :
    (loadVar ty a).run P w = .ok (.agg vs.toArray) w := by
  have hl : (loadCells a vs.length).run P w = .ok vs.toArray w := run_loadCells_list (P := P) w a vs hc
  cases hq : P.info? ty with
  | none => simp [hq] at hi
  | some i =>
    have hs : i.size = vs.length := by simpa [hq] using hi
    have hagg : (isAgg ty).run P w = .ok true w := by
      unfold isAgg
      rw [Sem.run_bind, run_underlying hu w]
      cases d <;> simp_all
    simp [loadVar, Sem.run_bind, hagg, sizeOf, typeInfo, hq, hs, hl]
theorem wp_load_list {o : Oper} {a : Act} {w : World} {K : Act → World → Prop} {Q : Exit → Act → World → Prop} (ty : TypeId) (x : Operand) (ho : o.op = .load ty x)
    (p : Addr) (hx : a.eval x = .pointer (some p)) (vs : List Value) (d : TypeDesc) (hc : ∀ j v, vs[j]? = some v → w.cell? (p.add j) = some v)
    (hu : P.underlying ty = some d) (hd : (match d with | .struct _ | .array _ _ => true | _ => false) = true) (hi : (P.info? ty).map (·.size) = some vs.length)
    (h : K (a.put o.dst (.agg vs.toArray)) w) : o.wp P a w K Q := by
  unfold Oper.wp execOp
  simp only [ho, hx, Instr.loadAt, Instr.sureAddr, Sem.run_bind, Sem.run_pure, Result.andThen_ok, run_loadVar_list w p ty vs d hc hu hd hi]
  exact h
theorem wpList_load_list {ops : Array Oper} {rest : List Oper} {o : Oper} {a : Act} {w : World} {Q : Exit → Act → World → Prop} (hgd : o.guard = none) (ty : TypeId) (x : Operand) (ho : o.op = .load ty x)
    (p : Addr) (hx : a.eval x = .pointer (some p)) (vs : List Value) (d : TypeDesc) (hc : ∀ j v, vs[j]? = some v → w.cell? (p.add j) = some v)
    (hu : P.underlying ty = some d) (hd : (match d with | .struct _ | .array _ _ => true | _ => false) = true) (hi : (P.info? ty).map (·.size) = some vs.length)
    (h : wpList P ops Q rest (a.put o.dst (.agg vs.toArray)) w) : wpList P ops Q (o :: rest) a w :=
  wpList_plain hgd fun _ hK => wp_load_list ty x ho p hx vs d hc hu hd hi (hK _ _ h)
end
theorem addr_add (b o j : Nat) : (⟨b, o, none⟩ : Addr).add j = ⟨b, o + j, none⟩ := by unfold Addr.add; split <;> simp_all
theorem alloc_setRow (w : World) (old cs : Array Value) (t : TypeId) (g : Nat) (hg : w.heap.size = g) : (w.alloc (.cells old t (0, 0))).setRow g cs = w.alloc (.cells cs t (0, 0)) := by
  subst hg
  unfold World.setRow World.alloc
  congr 1
  apply Array.ext_getElem?
  intro i
  simp only [Array.getElem?_modify, Array.getElem?_push]
  by_cases hi : i = w.heap.size
  · subst hi; simp
  · simp [Ne.symm hi, hi]
/-- a statement's cells -/
abbrev stCells (k : Int) (nm : List UInt8) (t : Ty) (x y : Ex) (A : Option Addr) (l c : Nat) (B : Option Addr) (m e : Nat) : List Value :=
  [.int .u8 k, .string ⟨nm.toArray⟩, .int .u8 t.k, .string ⟨t.nm.toArray⟩, .int .i64 t.n, .int .u8 x.k, .int .i64 x.n, .string ⟨x.nm.toArray⟩, .int .u8 x.t.k, .string ⟨x.t.nm.toArray⟩, .int .i64 x.t.n, .slice x.d.a x.args.length x.d.c,
    .int .u8 y.k, .int .i64 y.n, .string ⟨y.nm.toArray⟩, .int .u8 y.t.k, .string ⟨y.t.nm.toArray⟩, .int .i64 y.t.n, .slice y.d.a y.args.length y.d.c, .slice A l c, .slice B m e]
theorem StAt.cells {w : World} {b o : Nat} {s : St} (h : StAt w b o s) : ∀ j v, (stCells s.k s.nm s.t s.x s.y s.bd.a s.body.length s.bd.c s.ed.a s.els.length s.ed.c)[j]? = some v → w.cell? ((⟨b, o, none⟩ : Addr).add j) = some v := by
  intro j v hv
  rw [addr_add]
  match j, hv with
  | 0, hv => cases hv; exact h.c0
  | 1, hv => cases hv; exact h.c1
  | 2, hv => cases hv; exact h.c2
  | 3, hv => cases hv; exact h.c3
  | 4, hv => cases hv; exact h.c4
  | 5, hv => cases hv; exact h.x.c0
  | 6, hv => cases hv; exact h.x.c1
  | 7, hv => cases hv; exact h.x.c2
  | 8, hv => cases hv; exact h.x.c3
  | 9, hv => cases hv; exact h.x.c4
  | 10, hv => cases hv; exact h.x.c5
  | 11, hv => cases hv; exact h.x.c6
  | 12, hv => cases hv; exact h.y.c0
  | 13, hv => cases hv; exact h.y.c1
  | 14, hv => cases hv; exact h.y.c2
  | 15, hv => cases hv; exact h.y.c3
  | 16, hv => cases hv; exact h.y.c4
  | 17, hv => cases hv; exact h.y.c5
  | 18, hv => cases hv; exact h.y.c6
  | 19, hv => cases hv; exact h.c19
  | 20, hv => cases hv; exact h.c20
  | n + 21, hv => simp at hv
theorem stSize (k : Int) (nm : List UInt8) (t : Ty) (x y : Ex) (A : Option Addr) (l c : Nat) (B : Option Addr) (m e : Nat) : (Tryd.prog.info? 61).map (·.size) = some (stCells k nm t x y A l c B m e).length := by kernel_rfl
theorem stSizeA (k : Int) (nm : List UInt8) (t : Ty) (x y : Ex) (A : Option Addr) (l c : Nat) (B : Option Addr) (m e : Nat) : (Tryd.prog.info? 61).map (·.size) = some (stCells k nm t x y A l c B m e).toArray.size := by kernel_rfl
theorem stOne (k : Int) (nm : List UInt8) (t : Ty) (x y : Ex) (A : Option Addr) (l c : Nat) (B : Option Addr) (m e : Nat) : (stCells k nm t x y A l c B m e).toArray.all (·.oneCell') = true := by simp [Value.oneCell']
theorem row_cells {w : World} {X : Nat} {vs : List Value} {T : TypeId} {fz : Nat × Nat} (h : w.heap[X]? = some (.cells vs.toArray T fz)) : ∀ j v, vs[j]? = some v → w.cell? ((⟨X, 0, none⟩ : Addr).add j) = some v := by
  intro j v hv
  rw [addr_add, Nat.zero_add, cell_at h]
  simpa using hv
end Go.Proofs.YtblnmlbkgdncnaaDoor
