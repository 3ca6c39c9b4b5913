import Derived.Test.YtkklogikakcanaaGreatDoorTreeB
import Derived.Test.YtkklogikakcanaaGreatDoorKept
import Derived.Test.YtkklogikakcanaaGreatDoorScopePlain
import Derived.Test.YtkklogikakcanaaGreatDoorValMap
set_option linter.unusedVariables false
set_option linter.unusedSimpArgs false
namespace Go.Proofs.YtkklogikakcanaaGreatDoor
open Go Go.Maps Go.RowKit
theorem ValMap.look1 {P : Program} {k e t : TypeId} {w : World} {b n : Nat} {f : Lit → Option Value} (h : ValMap P k w b n f) (K : Keyed P k) (ht : P.underlying t = some (.map k e)) {z : Value} (hz : (zeroValue e).run P w = .ok z w) {key : Value} {l : Lit} (hkey : keyOf P k key = some l) :
  (Instr.lookup t (.map (some b)) key false).run P w = .ok ((f l).getD z) w := by
 obtain ⟨D, h1, h2⟩ := h
 obtain ⟨v, ps, hr, hat⟩ := h1.lookup K ht hz (zd := .held z) (zp := []) rfl hkey
 rw [(h2 l).2] at hat
 have hv : v = (f l).getD z := by
  cases hf : f l with
  | none => rw [hf] at hat; injection hat with hat; injection hat with hat _; injection hat
  | some u => rw [hf] at hat; injection hat with hat; injection hat with hat _; injection hat
 rw [hr, hv]
def nmL (f : List UInt8 → Option Value) : Lit → Option Value
 | .string x => f x
 | _ => none
abbrev intF (g : List UInt8 → Option Nat) : Lit → Option Value := nmL fun x => (g x).map fun i => .int .i64 (i : Int)
abbrev tyF (g : List UInt8 → Option Ty) : Lit → Option Value := nmL fun x => (g x).map fun t => t.val
theorem strK : Keyed Tryz.prog 9 := string_keyed Tryz.underlying9
theorem str_key {x : List UInt8} (h : lenOk x.length) : keyOf Tryz.prog 9 (.string ⟨x.toArray⟩) = some (.string x) := Go.WideMaps.keyOf_string_mk Tryz.underlying9 (by
 have e : (⟨x.toArray⟩ : ByteArray).size = x.length := List.size_toArray
 unfold lenOk at h
 rw [e]; unfold maxLen; omega)
section
variable {w : World} {b n : Nat} {x : List UInt8}
theorem intMap_look {g : List UInt8 → Option Nat} (h : ValMap Tryz.prog 9 w b n (intF g)) (hx : lenOk x.length) :
  (Instr.lookup 168 (.map (some b)) (.string ⟨x.toArray⟩) true).run Tryz.prog w = .ok (.tuple #[.int .i64 (((g x).getD 0 : Nat) : Int), .bool (g x).isSome]) w := by
 have := ValMap.look h strK Tryz.underlying168 (z := .int .i64 0) (by kernel_rfl) (str_key hx)
 rw [this]
 unfold intF nmL
 dsimp only
 cases g x <;> rfl
theorem tyMap_look {g : List UInt8 → Option Ty} (h : ValMap Tryz.prog 9 w b n (tyF g)) (hx : lenOk x.length) :
  (Instr.lookup 169 (.map (some b)) (.string ⟨x.toArray⟩) true).run Tryz.prog w = .ok (.tuple #[((g x).getD ty0).val, .bool (g x).isSome]) w := by
 have := ValMap.look h strK Tryz.underlying169 (z := ty0.val) (by kernel_rfl) (str_key hx)
 rw [this]
 unfold tyF nmL
 dsimp only
 cases g x <;> rfl
theorem updL_str (q k : List UInt8) (v : Value) (f : Lit → Option Value) : updL (.string q) v f (.string k) = if k = q then some v else f (.string k) := by
 by_cases h : k = q
 ·subst h; rw [updL_same, if_pos rfl]
 ·rw [updL_ne (fun e => h (by injection e)), if_neg h]
theorem updL_nm (q : List UInt8) (v : Value) (f : List UInt8 → Option Value) (l : Lit) : updL (.string q) v (nmL f) l = nmL (fun k => if k = q then some v else f k) l := by
 by_cases h : ∃ k, l = .string k
 ·obtain ⟨k, rfl⟩ := h
  rw [updL_str]
  rfl
 ·have h1 : l ≠ .string q := fun e => h ⟨q, e⟩
  rw [updL_ne h1]
  cases l <;> first | rfl | exact absurd ⟨_, rfl⟩ h
end
def idxFrom {α : Type} (f : α → List UInt8) (l : List α) (i : Nat) (nm : List UInt8) : Option Nat := (idxOf f nm (l.drop i)).map (· + i)
theorem idxFrom_zero {α : Type} (f : α → List UInt8) (l : List α) (nm : List UInt8) : idxFrom f l 0 nm = idxOf f nm l := by
 unfold idxFrom
 rw [List.drop_zero]
 cases idxOf f nm l <;> rfl
theorem idxFrom_len {α : Type} (f : α → List UInt8) (l : List α) (nm : List UInt8) : idxFrom f l l.length nm = none := by
 unfold idxFrom
 rw [List.drop_length]
 rfl
theorem idxFrom_step {α : Type} (f : α → List UInt8) (l : List α) (i : Nat) (x : α) (h : l[i]? = some x) (nm : List UInt8) : idxFrom f l i nm = if nm = f x then some i else idxFrom f l (i + 1) nm := by
 have hlt : i < l.length := (List.getElem?_eq_some_iff.1 h).1
 have hd : l.drop i = x :: l.drop (i + 1) := by
  have := List.drop_eq_getElem_cons hlt
  rw [List.getElem?_eq_getElem hlt] at h
  injection h with h
  rw [this, h]
 unfold idxFrom
 rw [hd, idxOf]
 by_cases e : f x = nm
 ·rw [if_pos e, if_pos e.symm]; simp
 ·rw [if_neg e, if_neg (fun q => e q.symm)]
  cases idxOf f nm (l.drop (i + 1)) with
  | none => rfl
  | some j => simp only [Option.map_some]; congr 1; omega
theorem fieldFrom_step (l : List Fl) (i : Nat) (x : Fl) (h : l[i]? = some x) (nm : List UInt8) : fieldOf (l.drop i) nm = if nm = x.nm then some x.t else fieldOf (l.drop (i + 1)) nm := by
 have hlt : i < l.length := (List.getElem?_eq_some_iff.1 h).1
 have hd : l.drop i = x :: l.drop (i + 1) := by
  have := List.drop_eq_getElem_cons hlt
  rw [List.getElem?_eq_getElem hlt] at h
  injection h with h
  rw [this, h]
 rw [hd, fieldOf]
 by_cases e : x.nm = nm
 ·rw [if_pos e, if_pos e.symm]
 ·rw [if_neg e, if_neg (fun q => e q.symm)]
theorem intF_step {α : Type} (f : α → List UInt8) (l : List α) (i : Nat) (x : α) (h : l[i]? = some x) (y : Lit) : updL (.string (f x)) (.int .i64 (i : Int)) (intF (idxFrom f l (i + 1))) y = intF (idxFrom f l i) y := by
 unfold intF
 rw [updL_nm]
 congr 1
 funext k
 rw [idxFrom_step f l i x h]
 split <;> rfl
theorem tyF_step (l : List Fl) (i : Nat) (x : Fl) (h : l[i]? = some x) (y : Lit) : updL (.string x.nm) x.t.val (tyF fun nm => fieldOf (l.drop (i + 1)) nm) y = tyF (fun nm => fieldOf (l.drop i) nm) y := by
 unfold tyF
 rw [updL_nm]
 congr 1
 funext k
 dsimp only
 rw [fieldFrom_step l i x h]
 split <;> rfl
abbrev scObj (p : Pr) (Rb Fb Sb : Nat) : Obj := .cells #[.slice p.rd.a p.rs.length p.rd.c, .slice p.sd.a p.ss.length p.sd.c, .slice p.fd.a p.fs.length p.fd.c, .slice p.td.a p.ts.length p.td.c, .map (some Rb), .map (some Fb), .map (some Sb)] 171 (0, 0)
structure ScIs (B Kb Rb Fb Sb : Nat) (p : Pr) (w : World) : Prop where
 k : w.heap[Kb]? = some (scObj p Rb Fb Sb)
 recs : ValMap Tryz.prog 9 w Rb p.rs.length (intF (recOf p))
 funs : ValMap Tryz.prog 9 w Fb p.fs.length (intF (funOf p))
 shs : ValMap Tryz.prog 9 w Sb p.ss.length (tyF (shOf p))
 inn : PrIn w B p
 le : B ≤ w.heap.size
theorem ScIs.kept {B Kb Rb Fb Sb : Nat} {p : Pr} {w w' : World} {S : Nat → Prop} (h : ScIs B Kb Rb Fb Sb p w) (hk : Kept S w w') (h1 : ¬ S Kb) (h2 : ¬ S Rb) (h3 : ¬ S Fb) (h4 : ¬ S Sb) (hS : ∀ k, S k → B ≤ k) : ScIs B Kb Rb Fb Sb p w' :=
 ⟨(hk.block Kb (Array.getElem?_eq_some_iff.1 h.k).1 h1).trans h.k, h.recs.of_block (hk.block _ h.recs.lt h2), h.funs.of_block (hk.block _ h.funs.lt h3), h.shs.of_block (hk.block _ h.shs.lt h4),
  h.inn.keep (hk.below h.le hS) (Nat.le_refl B), Nat.le_trans h.le hk.size⟩
theorem ScIs.below {B Kb Rb Fb Sb : Nat} {p : Pr} {w w' : World} (h : ScIs B Kb Rb Fb Sb p w) (hb : Below w.heap.size w w') : ScIs B Kb Rb Fb Sb p w' :=
 h.kept (S := fun _ => False) (Kept.of_below hb) id id id id (fun _ hh => hh.elim)
def LcAt (w : World) : Option Addr → Lc → Prop
 | a, [] => a = none
 | a, f :: r => ∃ b a', a = some ⟨b, 0, none⟩ ∧ w.heap[b]? = some (.cells #[.string ⟨f.nm.toArray⟩, .int .u8 f.t.k, .string ⟨f.t.nm.toArray⟩, .int .i64 f.t.n, .pointer a'] 176 (0, 0)) ∧ f.Ok ∧ LcAt w a' r
theorem LcAt.below {w w' : World} (hb : Below w.heap.size w w') : ∀ {l : Lc} {a : Option Addr}, LcAt w a l → LcAt w' a l
 | [], _, h => h
 | f :: r, _, ⟨b, a', h1, h2, h3, h4⟩ => ⟨b, a', h1, (hb.block b (Array.getElem?_eq_some_iff.1 h2).1).trans h2, h3, LcAt.below hb h4⟩
theorem LcAt.kept {w w' : World} {S : Nat → Prop} (hk : Kept S w w') (hS : ∀ k cs fz, w.heap[k]? = some (.cells cs 176 fz) → ¬ S k) : ∀ {l : Lc} {a : Option Addr}, LcAt w a l → LcAt w' a l
 | [], _, h => h
 | f :: r, _, ⟨b, a', h1, h2, h3, h4⟩ => ⟨b, a', h1, (hk.block b (Array.getElem?_eq_some_iff.1 h2).1 (hS b _ _ h2)).trans h2, h3, LcAt.kept hk hS h4⟩
theorem LcAt.ok {w : World} : ∀ {l : Lc} {a : Option Addr}, LcAt w a l → ∀ f ∈ l, f.Ok
 | [], _, _, f, hf => by simp at hf
 | g :: r, _, ⟨b, a', _, _, h3, h4⟩, f, hf => by
  rcases List.mem_cons.1 hf with rfl | hf
  ·exact h3
  ·exact LcAt.ok h4 f hf
end Go.Proofs.YtkklogikakcanaaGreatDoor
