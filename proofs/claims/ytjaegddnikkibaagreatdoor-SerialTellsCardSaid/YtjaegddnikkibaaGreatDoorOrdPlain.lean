/-
  The order of attempts out of a row of numbers below N + 1, sorted. No program in sight.
-/
import Derived.Test.YtjaegddnikkibaaGreatDoorOrdCmp
set_option linter.unusedVariables false
set_option linter.unusedSimpArgs false
namespace Go.Proofs.YtjaegddnikkibaaGreatDoor
open Go.RowKit Go.Sort

theorem committed_append : ∀ (a b : List Att) (n : Nat), committed n (a ++ b) = committed n a ++ committed (n + a.length) b
  | [], b, n => by simp [committed]
  | x :: r, b, n => by
    simp only [List.cons_append, committed, List.length_cons]
    rw [committed_append r b (n + 1), show n + 1 + r.length = n + (r.length + 1) by omega]
    split <;> simp
theorem committed_take {l : List Att} {k : Nat} (h : k < l.length) : committed 0 (l.take (k + 1)) = committed 0 (l.take k) ++ (if l[k].kd = 1 then [(k : Int)] else []) := by
  rw [List.take_succ_eq_append_getElem h, committed_append]
  simp only [committed, List.length_take, Nat.zero_add, Nat.min_eq_left (Nat.le_of_lt h)]
theorem committed_len (l : List Att) (n : Nat) : (committed n l).length ≤ l.length := by
  induction l generalizing n with
  | nil => simp [committed]
  | cons x r ih =>
    unfold committed
    have := ih (n + 1)
    split <;> simp only [List.length_cons] <;> omega

def cfL (l : List Att) (N : Nat) (i j : Fin (N + 1)) : Int := ordC (attN l (i.val : Int)) (attN l (j.val : Int))
theorem ltC_cfL (l : List Att) (N : Nat) (x y : Fin (N + 1)) : ltC (cfL l N) x y = ltN l (numF N x) (numF N y) := ordC_lt _ _
theorem cfL_swo (l : List Att) (N : Nat) : SWO (ltC (cfL l N)) where
  irrefl x := by rw [ltC_cfL]; exact (ltN_swo l).irrefl _
  trans x y z := by rw [ltC_cfL, ltC_cfL, ltC_cfL]; exact (ltN_swo l).trans _ _ _
  ntrans x y z := by rw [ltC_cfL, ltC_cfL, ltC_cfL]; exact (ltN_swo l).ntrans _ _ _
theorem stB_cfL (l : List Att) (N : Nat) (x y : Fin (N + 1)) : stB (numF N) (ltC (cfL l N)) x y = stB id (ltN l) (numF N x) (numF N y) := by
  unfold stB
  rw [ltC_cfL, ltC_cfL]
  rfl
/-- a list of numbers as a row -/
def dOf (N : Nat) (o : List Int) : Array (Fin (N + 1)) := (o.map fun i => Fin.ofNat (N + 1) i.toNat).toArray
theorem dOf_size (N : Nat) (o : List Int) : (dOf N o).size = o.length := by simp [dOf]
theorem numF_ofNat {N : Nat} {i : Int} (h0 : 0 ≤ i) (h1 : i < (N : Int) + 1) : numF N (Fin.ofNat (N + 1) i.toNat) = i := by
  unfold numF
  rw [Fin.val_ofNat, Nat.mod_eq_of_lt (by omega)]
  omega
theorem dOf_get {N : Nat} {o : List Int} {k : Nat} (hk : k < o.length) (h0 : 0 ≤ o[k]) (h1 : o[k] < (N : Int) + 1) : numF N (dOf N o)[k]! = o[k] := by
  have : (dOf N o)[k]! = Fin.ofNat (N + 1) o[k].toNat := by
    rw [getElem!_pos (dOf N o) k (by rw [dOf_size]; exact hk)]
    simp [dOf]
  rw [this]
  exact numF_ofNat h0 h1
theorem dOf_map {N : Nat} {o : List Int} (h : ∀ i ∈ o, 0 ≤ i ∧ i < (N : Int) + 1) : (dOf N o).toList.map (numF N) = o := by
  have : (dOf N o).toList = o.map fun i => Fin.ofNat (N + 1) i.toNat := by simp [dOf]
  rw [this, List.map_map]
  conv => rhs; rw [← List.map_id o]
  exact List.map_congr_left fun i hi => numF_ofNat (h i hi).1 (h i hi).2
theorem extract_all {α : Type} {d : Array α} {n : Nat} (h : d.size = n) : (d.extract 0 n).toList = d.toList := by
  subst h; simp
/-- what the sort leaves is the order -/
theorem order_sorted {l : List Att} {N : Nat} (hN : l.length = N + 1) {d1 : Array (Fin (N + 1))} (h : Merged (numF N) (ltC (cfL l N)) 0 (committed 0 l).length (dOf N (committed 0 l)) d1) :
    d1.toList.map (numF N) = orderV l ∧ d1.size = (orderV l).length := by
  have hsz : d1.size = (committed 0 l).length := by rw [h.perm.1, dOf_size]
  have hb : ∀ i ∈ committed 0 l, 0 ≤ i ∧ i < (N : Int) + 1 := fun i hi => by
    have := (committed_lt l 0).2 i hi
    omega
  have hp := h.perm.2.2
  rw [extract_all hsz, extract_all (dOf_size N _)] at hp
  have hp2 := hp.map (numF N)
  rw [dOf_map hb] at hp2
  have ho : d1.toList.map (numF N) = orderV l := by
    refine orderV_of hp2 (List.pairwise_map.2 (List.pairwise_iff_getElem.2 fun i j hi hj hij => ?_))
    have hi' : i < d1.size := by simpa using hi
    have hj' : j < d1.size := by simpa using hj
    have hs := h.sorted i j (Nat.zero_le _) hij (by omega)
    rw [stB_cfL, getElem!_pos d1 i hi', getElem!_pos d1 j hj'] at hs
    simpa using hs
  refine ⟨ho, ?_⟩
  rw [← ho]; simp

/-- a slice's numbers -/
def IntsAt (w : World) (A : Option Addr) (o : List Int) : Prop :=
  o ≠ [] → ∃ g off, A = some ⟨g, off, none⟩ ∧ g < w.heap.size ∧ ∀ k i, o[k]? = some i → w.cell? ⟨g, off + k, none⟩ = some (.int .i64 i)
theorem IntsAt.keep {w w' : World} {A : Option Addr} {o : List Int} (h : IntsAt w A o) (hb : Below w.heap.size w w') : IntsAt w' A o := fun hne => by
  obtain ⟨g, off, e, hlt, hc⟩ := h hne
  exact ⟨g, off, e, Nat.lt_of_lt_of_le hlt hb.size, fun k i hi => (hb.cell (p := ⟨g, off + k, none⟩) hlt).trans (hc k i hi)⟩
theorem intsAt_row {N : Nat} {w0 W : World} {g : Nat} {d : Array (Fin (N + 1))} {o : List Int} (h : RowW N w0 g 0 d W) (ho : d.toList.map (numF N) = o) : IntsAt W (some ⟨g, 0, none⟩) o := fun _ =>
  ⟨g, 0, rfl, Nat.lt_of_lt_of_le h.glt h.size, fun k i hi => by
    rw [← ho, List.getElem?_map] at hi
    obtain ⟨x, hx, rfl⟩ := Option.map_eq_some_iff.1 hi
    have hk : k < d.size := by
      have := (List.getElem?_eq_some_iff.1 hx).1
      simpa using this
    rw [h.cell k hk, getElem!_pos d k hk]
    have : d[k] = x := by
      have := (List.getElem?_eq_some_iff.1 hx).2
      simpa using this
    rw [this]; rfl⟩
end Go.Proofs.YtjaegddnikkibaaGreatDoor
