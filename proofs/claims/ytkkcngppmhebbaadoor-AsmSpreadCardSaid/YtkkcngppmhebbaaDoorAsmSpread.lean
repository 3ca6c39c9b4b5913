/-
  law18.spread walked.
-/
import Derived.Test.YtkkcngppmhebbaaDoorAsmLaw3
import Derived.Test.YtkkcngppmhebbaaDoorIsaEncode
import Derived.Lib.AppendStr
import Derived.Lib.UnsafeStr
set_option linter.unusedVariables false
set_option linter.unusedSimpArgs false
namespace Go.Proofs.YtkkcngppmhebbaaDoor
open Go.RowKit

def bCells (l : List UInt8) : List Value := l.map fun b => Value.int .u8 b.toNat
/-- a row of bytes that reads so: owned, or as it was made of a literal (full) -/
def BytesAt (H : Nat) (W : World) (v : Value) (l : List UInt8) : Prop :=
  W.ownsRow H 5 1 v l.length (bCells l) ∨ ∃ g fz, v = .slice (some ⟨g, 0, none⟩) l.length l.length ∧ H ≤ g ∧ l ≠ [] ∧ W.heap[g]? = some (.cells (bCells l).toArray 5 fz)
theorem own_from {W : World} {B e k n : Nat} {v : Value} {xs : List Value} (h : W.ownsRow B e k v n xs) : ∀ g, v.ownBlock = some g → B ≤ g := fun g hg => by
  rcases h.2 with ⟨rfl, hn⟩ | ⟨g', cap, cur, rfl, hB, r⟩
  · cases hg
  · injection hg with hg; subst hg; exact hB
theorem BytesAt.from {H : Nat} {W : World} {v : Value} {l : List UInt8} (h : BytesAt H W v l) : ∀ g, v.ownBlock = some g → H ≤ g := by
  rcases h with h | ⟨g, fz, rfl, hH, -, -⟩
  · exact own_from h
  · intro g' hg; injection hg with hg; subst hg; exact hH
theorem BytesAt.alloc {H : Nat} {W : World} {v : Value} {l : List UInt8} (h : BytesAt H W v l) (x : Obj) : BytesAt H (W.alloc x) v l := by
  rcases h with h | ⟨g, fz, hv, hH, hl, hb⟩
  · exact .inl (h.alloc x)
  · exact .inr ⟨g, fz, hv, hH, hl, blk_old hb x⟩
structure OutSt (H : Nat) (w : World) (l : List UInt8) (W : World) (v : Value) : Prop where
  row : BytesAt H W v l
  bel : Below H w W
  le : H ≤ W.heap.size
theorem OutSt.grown {H : Nat} {w W w1 : World} {l l' : List UInt8} {v v' : Value} (h : OutSt H w l W v) (x : Obj) (hr : BytesAt H w1 v' l') (hg : (W.alloc x).grownBy w1 v.ownBlock) : OutSt H w l' w1 v' :=
  ⟨hr, (h.bel.alloc h.le x).grown hg (by have := h.le; simp; omega) h.row.from, by have := h.le; have := hg.size; simp at this; omega⟩
theorem OutSt.grown0 {H : Nat} {w W w1 : World} {l l' : List UInt8} {v v' : Value} (h : OutSt H w l W v) (hr : BytesAt H w1 v' l') (hg : W.grownBy w1 v.ownBlock) : OutSt H w l' w1 v' :=
  ⟨hr, h.bel.grown hg h.le h.row.from, Nat.le_trans h.le hg.size⟩
theorem bCells_snoc (l : List UInt8) (x : UInt8) : bCells (l ++ [x]) = bCells l ++ [Value.int .u8 x.toNat] := by simp [bCells]
theorem bCells_halt (l : List UInt8) : bCells (l ++ [32, 35, 32, 104, 97, 108, 116, 10]) = bCells l ++ Lib.strCells ⟨#[32, 35, 32, 104, 97, 108, 116, 10]⟩ := by
  unfold bCells
  rw [List.map_append]
  rfl
theorem run_append_bytes {H : Nat} {w : World} {v : Value} {l : List UInt8} (ty : TypeId) (hrow : BytesAt H w v l) (ad : Addr) (c : Nat) (y : UInt8)
    (hnews : ∀ j u, ([Value.int .u8 y.toNat] : List Value)[j]? = some u → w.cell? (ad.add j) = some u) (hb : (l ++ [y]).length ≤ 1000000000) (hbase : H ≤ w.heap.size) :
    ∃ v' w', (Builtin.append_ #[48, 48] ty #[v, .slice (some ad) 1 c]).run Tryd.prog w = .ok v' w' ∧ w'.ownsRow H 5 1 v' (l ++ [y]).length (bCells (l ++ [y])) ∧ w.grownBy w' v.ownBlock := by
  obtain ⟨i0, hi0, hz0, hz1, hz2⟩ := info_parts byteInfo
  have hb' : l.length + 1 ≤ 1000000000 := by simpa using hb
  rcases hrow with hrow | ⟨g, fz, rfl, hH, hl, hblk⟩
  · obtain ⟨v', w', hr, h2, h3, -⟩ := run_append_own (P := Tryd.prog) w H 48 ty 5 i0 (.int .u8 0) 1 1 Tryd.underlying48 hi0 hz0 hz1 hz2 rfl (by decide) v l.length _ hrow ad 1 c [.int .u8 y.toNat] (by simp) hnews (by simp [Value.oneCell']) (by unfold maxLen; omega) (by omega) hbase
    exact ⟨v', w', hr, by rw [bCells_snoc, List.length_append]; exact h2, h3⟩
  · have hlen : (bCells l).length = l.length := by simp [bCells]
    have hcell : ∀ j u, (bCells l)[j]? = some u → w.cell? ((⟨g, 0, none⟩ : Addr).add j) = some u := fun j u hu => by
      have hadd : (⟨g, 0, none⟩ : Addr).add j = ⟨g, j, none⟩ := by unfold Addr.add; split <;> simp_all
      rw [hadd]
      have := cell_of hblk j
      rw [List.getElem?_toArray, hu] at this
      exact this
    have hr := run_append_grow (P := Tryd.prog) w 48 ty 5 i0 (.int .u8 0) Tryd.underlying48 hi0 hz0 ⟨g, 0, none⟩ l.length l.length (bCells l) (by rw [hz1, hlen]; omega) hcell ad 1 c [.int .u8 y.toNat] (by rw [hz1]; rfl) hnews (by omega) (by omega)
      (by rw [hz2]; exact growslice_fits (by omega) (by omega))
    refine ⟨_, _, hr, ⟨by simp [bCells], .inr ⟨w.heap.size, _, _, by rw [List.length_append]; rfl, hbase, heap_alloc_new w.drew _, ?_, ?_, ?_, ?_⟩⟩, ⟨rfl, rfl, rfl, by simp, fun k hk _ => heap_alloc_old w.drew _ hk⟩⟩
    · rw [List.length_append]; exact grownCap_ge w (l.length + 1) l.length 5
    · exact grownCap_le_maxLen w (l.length + 1) l.length 5 (by unfold maxLen; omega)
    · have hge := grownCap_ge w (l.length + 1) l.length 5
      simp only [Array.size_append, List.size_toArray, size_zeroCells, hlen, List.length_singleton]
      have e1 : (Value.int .u8 0).cells.size = 1 := rfl
      rw [e1]
      omega
    · simp only [Array.toList_append, bCells_snoc]
      rw [List.take_append_of_le_length (by simp [hlen])]
      rw [List.length_append, List.length_singleton, Nat.mul_one]
      exact List.take_of_length_le (by simp [hlen])
theorem wpList_append_l {H : Nat} {w : World} {ops : Array Oper} {rest : List Oper} {o : Oper} {a : Act} {Q : Exit → Act → World → Prop} (hgd : o.guard = none) (s x : Operand)
    (ho : o.op = .call { callee := .builtin .append, args := #[s, x], argTypes := #[48, 48] })
    (v : Value) (l : List UInt8) (hs : a.eval s = v) (hrow : BytesAt H w v l) (ad : Addr) (c : Nat) (hx : a.eval x = .slice (some ad) 1 c) (y : UInt8)
    (hnews : ∀ j u, ([Value.int .u8 y.toNat] : List Value)[j]? = some u → w.cell? (ad.add j) = some u) (hb : (l ++ [y]).length ≤ 1000000000) (hbase : H ≤ w.heap.size)
    (h : ∀ v' w', w'.ownsRow H 5 1 v' (l ++ [y]).length (bCells (l ++ [y])) → w.grownBy w' v.ownBlock → wpList Tryd.prog ops Q rest (a.put o.dst v') w') : wpList Tryd.prog ops Q (o :: rest) a w := by
  refine wpList_plain hgd fun K hK => ?_
  obtain ⟨v', w', hr, h2, h3⟩ := run_append_bytes o.type hrow ad c y hnews hb hbase
  unfold Oper.wp execOp
  simp only [ho, resolve, invoke, builtin, Sem.run_bind, Sem.run_pure, Result.andThen_ok, List.map_toArray, List.map_cons, List.map_nil, hs, hx, hr]
  exact hK _ _ (h v' w' h2 h3)
theorem news_l (W : World) (x : UInt8) : ∀ j u, ([Value.int .u8 x.toNat] : List Value)[j]? = some u → (W.alloc (.cells #[.int .u8 x.toNat] 5 (0, 0))).cell? ((⟨W.heap.size, 0, none⟩ : Addr).add j) = some u := World.news_of_block (heap_alloc_new W _)
theorem strOfNums_bytes (l : List UInt8) : strOfNums (l.map fun b => ((b.toNat : Nat) : Int)) = ⟨l.toArray⟩ := by
  unfold strOfNums
  simp [List.map_map, Function.comp_def]
theorem run_out_text {W : World} {H : Nat} {v : Value} {l : List UInt8} (h : BytesAt H W v l) (hl : l ≠ []) :
    (convert 48 9 v).run Tryd.prog W = .ok (.string ⟨l.toArray⟩) W := by
  have key : ∃ g cap, v = .slice (some ⟨g, 0, none⟩) l.length cap ∧ ∀ i, i < l.length → W.cell? ⟨g, 0 + i, none⟩ = some (.int .u8 ((l.map fun b => ((b.toNat : Nat) : Int)).getD i 0)) := by
    rcases h with h | ⟨g, fz, rfl, hH, -, hblk⟩
    · rcases h.2 with ⟨-, h0⟩ | ⟨g, cap, cur, rfl, -⟩
      · exact absurd (List.eq_nil_of_length_eq_zero h0) hl
      · refine ⟨g, cap, rfl, fun i hi => ?_⟩
        have := h.cells (g := g) rfl i (.int .u8 (l[i].toNat : Int)) (by simp [bCells, hi])
        have hadd : (⟨g, 0, none⟩ : Addr).add i = ⟨g, 0 + i, none⟩ := by unfold Addr.add; split <;> simp_all
        rw [hadd] at this
        rw [this]
        simp [hi]
    · refine ⟨g, l.length, rfl, fun i hi => ?_⟩
      rw [Nat.zero_add, cell_of hblk i]
      simp [bCells, hi]
  obtain ⟨g, cap, rfl, hc⟩ := key
  have hr := run_convert_bytes_arg (P := Tryd.prog) W 48 5 Tryd.underlying48 Tryd.underlying5 g 0 l.length cap (l.map fun b => ((b.toNat : Nat) : Int)) (by simp) hc 9 Tryd.underlying9
  rw [hr, strOfNums_bytes]
theorem own_some {W : World} {B e k n : Nat} {v : Value} {xs : List Value} (h : W.ownsRow B e k v n xs) (hn : n ≠ 0) : ∃ g cap, v = .slice (some ⟨g, 0, none⟩) n cap := by
  rcases h.2 with ⟨-, h0⟩ | ⟨g, cap, cur, rfl, -⟩
  · exact absurd h0 hn
  · exact ⟨g, cap, rfl⟩

theorem conv_bytes (g n c : Nat) (W : World) (cs : Array Value) (h : W.heap[g]? = some (.cells cs 5 (0, 0))) : (convert 48 48 (.slice (some ⟨g, 0, none⟩) n c)).run Tryd.prog W = .ok (.slice (some ⟨g, 0, none⟩) n c) (W.freeze ⟨g, cs.size, none⟩ 1) := by
  unfold convert
  simp [Tryd.underlying48, Tryd.underlying5, go_sem, markStringish, freeze, shape]
  simp [Sem.run, World.shape?, h, Result.andThen]

set_option maxHeartbeats 8000000 in
set_option maxRecDepth 100000 in
theorem spread_any (L : List UInt8) (hL : L.length ≤ 6000) (w : World) :
    Calls Tryd.prog 15 #[.string ⟨L.toArray⟩] w fun e w' => e = .returned (.string ⟨(spreadV L).toArray⟩) ∧ Below w.heap.size w w' := by
  obtain ⟨R, hR⟩ : ∃ R, spreadV L = R := ⟨_, rfl⟩
  rw [hR]
  have HR := Lib.hid hR
  have hsz : (⟨L.toArray⟩ : ByteArray).size = L.length := by simp [ByteArray.size]
  have HLen := Lib.hid hL
  clear hR
  obtain ⟨w0, hw0⟩ : ∃ w0, w.alloc (.cells #[.int .u8 35, .int .u8 32, .int .u8 120, .int .u8 10] 5 (0, 0)) = w0 := ⟨_, rfl⟩
  obtain ⟨H, hH⟩ : ∃ H, w.heap.size = H := ⟨_, rfl⟩
  have HB0 : Hid (w0.heap[H]? = some (.cells #[.int .u8 35, .int .u8 32, .int .u8 120, .int .u8 10] 5 (0, 0))) := Lib.hid (by rw [← hw0, ← hH]; exact heap_alloc_new w _)
  obtain ⟨wf, hwf⟩ : ∃ wf, w0.freeze ⟨H, 4, none⟩ 1 = wf := ⟨_, rfl⟩
  have HS0 : Hid (OutSt H w [35, 32, 120, 10] wf (.slice (some ⟨H, 0, none⟩) 4 4)) := Lib.hid (by
    have hb0 : Below H w w0 := by rw [← hw0, ← hH]; exact (Below.refl _ _).alloc (Nat.le_refl _) _
    have hsz0 : w0.heap.size = H + 1 := by rw [← hw0, ← hH]; simp
    refine ⟨.inr ⟨H, (4, 5), rfl, Nat.le_refl _, by decide, ?_⟩, ?_, ?_⟩
    · rw [← hwf]
      simp [World.freeze, Array.getElem?_modify, HB0.out, bCells]
    · refine hb0.trans ⟨by rw [← hwf]; rfl, by rw [← hwf]; rfl, by rw [← hwf]; rfl, by rw [← hwf]; simp [World.freeze], fun k hk => ?_⟩
      rw [← hwf]
      simp only [World.freeze]
      rw [if_neg (by decide), Array.getElem?_modify, if_neg (by omega)]
    · rw [← hwf]; simp [World.freeze]; omega)
  have hcv0 := conv_bytes H 4 4 w0 _ HB0.out
  have hcv : (convert 48 48 (.slice (some ⟨H, 0, none⟩) 4 4)).run Tryd.prog w0 = .ok (.slice (some ⟨H, 0, none⟩) 4 4) wf := by rw [← hwf]; exact hcv0
  clear hcv0 HB0 hwf
  rw [hH]
  go_enter Tryd.func15, Tryd.ntmps15
  go_wp2_with fail
  clear hw0 hcv hH
  go_loopw [3, 4, 5] (fun v rm i wr => ∃ (k : Nat) (rem : Bool) (l : List UInt8), i = .int .i64 k ∧ rm = .bool rem ∧ k ≤ L.length ∧ Hid (OutSt H w l wr v) ∧ Hid (l ++ spGo rem (L.drop k) = R) ∧ Hid (l.length ≤ 4 + 10 * k)) (fun _ _ i _ => L.length - (intOf i).toNat)
  case atStart => exact ⟨0, false, [35, 32, 120, 10], rfl, rfl, Nat.zero_le _, HS0, Lib.hid (by rw [List.drop_zero, ← HR.out]; rfl), Lib.hid (by decide)⟩
  case round =>
    obtain ⟨k, rem, l, rfl, rfl, hk, hS, hE, hB⟩ := hrel
    clear HS0
    by_cases hlt : k < L.length
    · have hdrop : L.drop k = L[k] :: L.drop (k + 1) := List.drop_eq_getElem_cons hlt
      have hget : ∀ h, ((⟨L.toArray⟩ : ByteArray)[k]'h) = L[k] := fun h => rfl
      have hE1 := Lib.hid hE.out
      rw [hdrop, spGo] at hE1
      obtain ⟨b, hbb⟩ : ∃ b, L[k] = b := ⟨_, rfl⟩
      rw [hbb] at hE1
      simp only [hbb] at hget
      have p1 : (k : Int) < (L.length : Int) := by omega
      have p2 : (0 : Int) ≤ (k : Int) := Int.natCast_nonneg _
      have p3 : k < (⟨L.toArray⟩ : ByteArray).size := by rw [hsz]; exact hlt
      have p4 : (k : Int) ≤ 6000 := by have := HLen.out; omega
      have hb9 : Hid (l.length ≤ 100000) := Lib.hid (by have := hB.out; have := HLen.out; omega)
      clear hdrop hbb hE
      obtain ⟨i0, hi0, hz0, hz1, hz2⟩ := info_parts byteInfo
      by_cases h35 : b = 35
      · subst h35
        have hR2 : Hid ((l ++ [35]) ++ spGo true (L.drop (k + 1)) = R) := Lib.hid (by
          rw [← hE1.out, if_neg (fun h => absurd h.1 (by decide)), if_neg (by decide)]
          have e : (rem || (35 : UInt8) == 35) = true := by cases rem <;> rfl
          rw [e]; simp)
        go_wp2_with (at_builtin; refine wpList_append_l rfl _ _ rfl _ l rfl (hS.out.row.alloc _) ⟨_, 0, none⟩ 1 rfl 35 (news_l _ _) ?c2 ?c3 ?_)
        case c2 => have := hb9.out; first | omega | (simp only [List.length_append, List.length_cons, List.length_nil]; omega)
        case c3 => have := hS.out.le; simp; omega
        intro v2 w2 hr hg
        have HO2 : Hid (w2.ownsRow H 5 1 v2 (l ++ [35]).length (bCells (l ++ [35]))) := Lib.hid (by first | (simp only [List.length_append, List.length_cons, List.length_nil, Nat.zero_add]; exact hr) | simpa using hr)
        have S2 : Hid (OutSt H w (l ++ [35]) w2 v2) := Lib.hid (hS.out.grown _ (.inl HO2.out) hg)
        clear hr hg
        go_wp2_with fail
        go_roundw
        case rel => exact ⟨k + 1, true, l ++ [35], by go_num, rfl, by omega, S2, hR2, Lib.hid (by have := hB.out; simp only [List.length_append, List.length_singleton]; omega)⟩
        case measure => simp [intOf]; omega
      · have f35 : ((b.toNat : Int) == 35) = false := by simp only [beq_eq_false_iff_ne]; intro e; exact h35 (UInt8.toNat_inj.1 (by exact_mod_cast e))
        by_cases h32 : b = 32
        · subst h32
          cases rem with
          | false =>
            have hR2 : Hid (((l ++ [9]) ++ [32]) ++ spGo false (L.drop (k + 1)) = R) := Lib.hid (by
              rw [← hE1.out, if_pos ⟨rfl, rfl⟩, if_neg (by decide)]
              have e : (false || (32 : UInt8) == 35) = false := rfl
              rw [e]; simp)
            go_wp2_with (at_builtin; refine wpList_append_l rfl _ _ rfl _ l rfl (hS.out.row.alloc _) ⟨_, 0, none⟩ 1 rfl 9 (news_l _ _) ?c2 ?c3 ?_)
            case c2 => have := hb9.out; first | omega | (simp only [List.length_append, List.length_cons, List.length_nil]; omega)
            case c3 => have := hS.out.le; simp; omega
            intro v2 w2 hr hg
            have HO2 : Hid (w2.ownsRow H 5 1 v2 (l ++ [9]).length (bCells (l ++ [9]))) := Lib.hid (by first | (simp only [List.length_append, List.length_cons, List.length_nil, Nat.zero_add]; exact hr) | simpa using hr)
            have S2 : Hid (OutSt H w (l ++ [9]) w2 v2) := Lib.hid (hS.out.grown _ (.inl HO2.out) hg)
            clear hr hg
            go_wp2_with (at_builtin; refine wpList_append_l rfl _ _ rfl _ (l ++ [9]) rfl (S2.out.row.alloc _) ⟨_, 0, none⟩ 1 rfl 32 (news_l _ _) ?c2 ?c3 ?_)
            case c2 => have := hb9.out; first | omega | (simp only [List.length_append, List.length_cons, List.length_nil]; omega)
            case c3 => have := S2.out.le; simp; omega
            intro v3 w3 hr hg
            have HO2 : Hid (w3.ownsRow H 5 1 v3 ((l ++ [9]) ++ [32]).length (bCells ((l ++ [9]) ++ [32]))) := Lib.hid (by first | (simp only [List.length_append, List.length_cons, List.length_nil, Nat.zero_add]; exact hr) | simpa using hr)
            have S3 : Hid (OutSt H w ((l ++ [9]) ++ [32]) w3 v3) := Lib.hid (S2.out.grown _ (.inl HO2.out) hg)
            clear hr hg
            go_wp2_with fail
            go_roundw
            case rel => exact ⟨k + 1, false, (l ++ [9]) ++ [32], by go_num, rfl, by omega, S3, hR2, Lib.hid (by have := hB.out; simp only [List.length_append, List.length_singleton]; omega)⟩
            case measure => simp [intOf]; omega
          | true =>
            have hR2 : Hid ((l ++ [32]) ++ spGo true (L.drop (k + 1)) = R) := Lib.hid (by
              rw [← hE1.out, if_neg (fun h => absurd h.2 (by decide)), if_neg (by decide)]
              have e : (true || (32 : UInt8) == 35) = true := rfl
              rw [e]; simp)
            go_wp2_with (at_builtin; refine wpList_append_l rfl _ _ rfl _ l rfl (hS.out.row.alloc _) ⟨_, 0, none⟩ 1 rfl 32 (news_l _ _) ?c2 ?c3 ?_)
            case c2 => have := hb9.out; first | omega | (simp only [List.length_append, List.length_cons, List.length_nil]; omega)
            case c3 => have := hS.out.le; simp; omega
            intro v2 w2 hr hg
            have HO2 : Hid (w2.ownsRow H 5 1 v2 (l ++ [32]).length (bCells (l ++ [32]))) := Lib.hid (by first | (simp only [List.length_append, List.length_cons, List.length_nil, Nat.zero_add]; exact hr) | simpa using hr)
            have S2 : Hid (OutSt H w (l ++ [32]) w2 v2) := Lib.hid (hS.out.grown _ (.inl HO2.out) hg)
            clear hr hg
            go_wp2_with fail
            go_roundw
            case rel => exact ⟨k + 1, true, l ++ [32], by go_num, rfl, by omega, S2, hR2, Lib.hid (by have := hB.out; simp only [List.length_append, List.length_singleton]; omega)⟩
            case measure => simp [intOf]; omega
        · have f32 : ((b.toNat : Int) == 32) = false := by simp only [beq_eq_false_iff_ne]; intro e; exact h32 (UInt8.toNat_inj.1 (by exact_mod_cast e))
          by_cases h10 : b = 10
          · subst h10
            have hR2 : Hid (((l ++ [10]) ++ [32, 35, 32, 104, 97, 108, 116, 10]) ++ spGo false (L.drop (k + 1)) = R) := Lib.hid (by
              rw [← hE1.out, if_neg (fun h => absurd h.1 (by decide)), if_pos rfl]
              simp [haltL])
            go_wp2_with (at_builtin; refine wpList_append_l rfl _ _ rfl _ l rfl (hS.out.row.alloc _) ⟨_, 0, none⟩ 1 rfl 10 (news_l _ _) ?c2 ?c3 ?_)
            case c2 => have := hb9.out; first | omega | (simp only [List.length_append, List.length_cons, List.length_nil]; omega)
            case c3 => have := hS.out.le; simp; omega
            intro v2 w2 hr hg
            have HO2 : Hid (w2.ownsRow H 5 1 v2 (l ++ [10]).length (bCells (l ++ [10]))) := Lib.hid (by first | (simp only [List.length_append, List.length_cons, List.length_nil, Nat.zero_add]; exact hr) | simpa using hr)
            have S2 : Hid (OutSt H w (l ++ [10]) w2 v2) := Lib.hid (hS.out.grown _ (.inl HO2.out) hg)
            clear hr hg
            go_wp2_with (at_builtin; refine Lib.wpList_append_own_string _ rfl _ _ 48 9 rfl H 5 i0 Tryd.underlying48 Tryd.underlying9 hi0 hz0 hz1 hz2 _ _ _ rfl HO2.out ⟨#[32, 35, 32, 104, 97, 108, 116, 10]⟩ rfl ?d1 ?d2 ?d3 ?_)
            case d1 => have := hb9.out; have e8 : (⟨#[32, 35, 32, 104, 97, 108, 116, 10]⟩ : ByteArray).size = 8 := rfl; unfold maxLen; first | omega | (simp only [List.length_append, List.length_cons, List.length_nil]; omega)
            case d2 => have := hb9.out; have e8 : (⟨#[32, 35, 32, 104, 97, 108, 116, 10]⟩ : ByteArray).size = 8 := rfl; first | omega | (simp only [List.length_append, List.length_cons, List.length_nil]; omega)
            case d3 => exact S2.out.le
            intro v3 w3 hr hg _
            have S3 : Hid (OutSt H w ((l ++ [10]) ++ [32, 35, 32, 104, 97, 108, 116, 10]) w3 v3) := Lib.hid (S2.out.grown0 (.inl (by rw [bCells_halt]; simp only [List.length_append, List.length_cons, List.length_nil, Nat.zero_add, Nat.reduceAdd] at hr ⊢; exact hr)) hg)
            clear hr hg
            go_wp2_with fail
            go_roundw
            case rel => exact ⟨k + 1, false, (l ++ [10]) ++ [32, 35, 32, 104, 97, 108, 116, 10], by go_num, rfl, by omega, S3, hR2, Lib.hid (by have := hB.out; simp only [List.length_append, List.length_cons, List.length_nil]; omega)⟩
            case measure => simp [intOf]; omega
          · have f10 : ((b.toNat : Int) == 10) = false := by simp only [beq_eq_false_iff_ne]; intro e; exact h10 (UInt8.toNat_inj.1 (by exact_mod_cast e))
            have hR2 : Hid ((l ++ [b]) ++ spGo rem (L.drop (k + 1)) = R) := Lib.hid (by
              rw [← hE1.out, if_neg (fun h => h32 h.1), if_neg h10]
              have e : (rem || b == 35) = rem := by rw [show (b == 35) = false by simpa using h35]; cases rem <;> rfl
              rw [e]; simp)
            go_wp2_with (at_builtin; refine wpList_append_l rfl _ _ rfl _ l rfl (hS.out.row.alloc _) ⟨_, 0, none⟩ 1 rfl b (news_l _ _) ?c2 ?c3 ?_)
            case c2 => have := hb9.out; first | omega | (simp only [List.length_append, List.length_cons, List.length_nil]; omega)
            case c3 => have := hS.out.le; simp; omega
            intro v2 w2 hr hg
            have HO2 : Hid (w2.ownsRow H 5 1 v2 (l ++ [b]).length (bCells (l ++ [b]))) := Lib.hid (by first | (simp only [List.length_append, List.length_cons, List.length_nil, Nat.zero_add]; exact hr) | simpa using hr)
            have S2 : Hid (OutSt H w (l ++ [b]) w2 v2) := Lib.hid (hS.out.grown _ (.inl HO2.out) hg)
            clear hr hg
            go_wp2_with fail
            go_roundw
            case rel => exact ⟨k + 1, rem, l ++ [b], by go_num, rfl, by omega, S2, hR2, Lib.hid (by have := hB.out; simp only [List.length_append, List.length_singleton]; omega)⟩
            case measure => simp [intOf]; omega
    · obtain rfl : k = L.length := by omega
      have hE1 : Hid (l = R) := Lib.hid (by have h := hE.out; rw [List.drop_length, spGo, List.append_nil] at h; exact h)
      obtain rfl := hE1.out
      have hne : l ≠ [] := by rw [← HR.out]; simp [spreadV]
      have hct := run_out_text hS.out.row hne
      clear hE1 hE hne HR
      go_wp2_with fail
      go_ret
      exact ⟨rfl, hS.out.bel⟩
end Go.Proofs.YtkkcngppmhebbaaDoor
