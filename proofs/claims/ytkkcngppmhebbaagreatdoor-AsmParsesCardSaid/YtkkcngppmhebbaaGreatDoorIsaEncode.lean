/-
  isa.Encode: instructions as bytes, or the refusal.
-/
import Derived.Test.YtkkcngppmhebbaaGreatDoorIsaCheck
import Derived.Test.YtkkcngppmhebbaaGreatDoorRowKit
import Derived.Deep.AppendLies
import Derived.Laws.BytesArg
import Derived.WalkSpells
set_option linter.unusedVariables false
set_option linter.unusedSimpArgs false
namespace Go.Proofs.YtkkcngppmhebbaaGreatDoor
open Go.RowKit

/-- a list of instructions in memory, its row below block B -/
def CmdsAt (w : World) (B : Nat) (A : Option Addr) (l : List Cmd) : Prop := l ≠ [] → ∃ b off, A = some ⟨b, off, none⟩ ∧ b < B ∧ ∀ k x, l[k]? = some x → CmdAt w b (off + k * 6) x
theorem CmdsAt.below {w w' : World} {B B' : Nat} {A : Option Addr} {l : List Cmd} (h : CmdsAt w B A l) (hb : Below B' w w') (hB : B ≤ B') : CmdsAt w' B A l := fun hne => by
  obtain ⟨b, off, e, hlt, hc⟩ := h hne
  exact ⟨b, off, e, hlt, fun k x hk => (hc k x hk).mono hb (by omega)⟩

/-- a row of bytes of the call's own -/
def BRow (H : Nat) (w : World) (v : Value) (n : Nat) : Prop := ∃ xs : List Int, xs.length = n ∧ w.ownsRow H 5 1 v n (xs.map (Value.int .u8))
theorem BRow.alloc {H : Nat} {w : World} {v : Value} {n : Nat} (h : BRow H w v n) (o : Obj) : BRow H (w.alloc o) v n := by
  obtain ⟨xs, h1, h2⟩ := h
  exact ⟨xs, h1, h2.alloc _⟩
theorem BRow.below {H : Nat} {w w' : World} {v : Value} {n : Nat} (h : BRow H w v n) (hb : Below w.heap.size w w') : BRow H w' v n := by
  obtain ⟨xs, h1, h2⟩ := h
  exact ⟨xs, h1, own_belowI h2 hb⟩
theorem BRow.ne {H : Nat} {w : World} {v : Value} {n : Nat} (h : BRow H w v n) {k : Nat} {cs : Array Value} {t : TypeId} {fz : Nat × Nat} (hk : w.heap[k]? = some (.cells cs t fz)) (ht : t ≠ 5) : v.ownBlock ≠ some k := fun e => by
  obtain ⟨xs, h1, h2⟩ := h
  rcases h2.2 with ⟨rfl, -⟩ | ⟨g, cap, cur, rfl, -, hb, -⟩
  · cases e
  · injection e with e
    subst e
    rw [hb] at hk
    injection hk with hk
    injection hk with _ hk
    exact ht hk.symm
theorem BRow.add {H : Nat} {w : World} {v : Value} {n m : Nat} {xs ys : List Int} (h1 : xs.length = n) (h2 : ys.length = m) (h : w.ownsRow H 5 1 v (n + m) (xs.map (Value.int .u8) ++ ys.map (Value.int .u8))) : BRow H w v (n + m) :=
  ⟨xs ++ ys, by simp [h1, h2], by rw [List.map_append]; exact h⟩
theorem BRow.lt {H : Nat} {w : World} {v : Value} {n : Nat} (h : BRow H w v n) {k : Nat} (hk : v.ownBlock = some k) : H ≤ k ∧ k < w.heap.size := by
  obtain ⟨xs, h1, h2⟩ := h
  exact h2.lt k hk
theorem BRow.slice {H : Nat} {w : World} {v : Value} {n : Nat} (h : BRow H w v n) : ∃ A c, v = .slice A n c := by
  obtain ⟨xs, h1, h2⟩ := h
  rcases h2.2 with ⟨rfl, rfl⟩ | ⟨g, cap, cur, rfl, -, hb, -⟩
  · exact ⟨_, _, rfl⟩
  · exact ⟨_, _, rfl⟩
theorem BRow.conv {H : Nat} {w : World} {A : Option Addr} {n c : Nat} (h : BRow H w (.slice A n c) n) : ∃ s : ByteArray, (convert 114 9 (.slice A n c)).run Tryz.prog w = .ok (.string s) w := by
  obtain ⟨xs, h1, h2⟩ := h
  rcases h2.2 with ⟨hv, hn⟩ | ⟨g, cap, cur, hv, hg, hb, hnc, hm, hs, ht⟩
  · injection hv with e1 e2 e3
    subst e1
    exact ⟨_, run_convert_bytes_nil w 114 5 Tryz.underlying114 Tryz.underlying5 n c 9 Tryz.underlying9⟩
  · injection hv with e1 e2 e3
    subst e1
    refine ⟨_, run_convert_bytes_arg w 114 5 Tryz.underlying114 Tryz.underlying5 g 0 n c xs h1 (fun i hi => ?_) 9 Tryz.underlying9⟩
    have h2' := h2
    rw [e3] at h2'
    have := h2.cells (g := g) rfl i (.int .u8 (xs.getD i 0)) (by simp [List.getD, List.getElem?_eq_getElem (show i < xs.length by omega)])
    have hadd : (⟨g, 0, none⟩ : Addr).add i = ⟨g, 0 + i, none⟩ := by unfold Addr.add; split <;> simp_all
    rw [hadd] at this
    exact this
theorem blk_grown {W w1 : World} {row : Option Nat} (hg : W.grownBy w1 row) {k : Nat} {o : Obj} (hk : W.heap[k]? = some o) (hne : row ≠ some k) : w1.heap[k]? = some o :=
  (hg.block k (by rcases Nat.lt_or_ge k W.heap.size with h | h; exact h; rw [Array.getElem?_eq_none h] at hk; cases hk) (fun e => hne e.symm)).trans hk
theorem blk_old {W : World} {k : Nat} {o : Obj} (hk : W.heap[k]? = some o) (x : Obj) : (W.alloc x).heap[k]? = some o :=
  (((Below.refl W.heap.size W).alloc (Nat.le_refl _) x).block k (by rcases Nat.lt_or_ge k W.heap.size with h | h; exact h; rw [Array.getElem?_eq_none h] at hk; cases hk)).trans hk
theorem blk_below {W w1 : World} {k : Nat} {o : Obj} (hk : W.heap[k]? = some o) (hb : Below W.heap.size W w1) : w1.heap[k]? = some o :=
  (hb.block k (by rcases Nat.lt_or_ge k W.heap.size with h | h; exact h; rw [Array.getElem?_eq_none h] at hk; cases hk)).trans hk
theorem cell_of {w : World} {X : Nat} {cs : Array Value} {T : TypeId} {fz : Nat × Nat} (h : w.heap[X]? = some (.cells cs T fz)) (j : Nat) : w.cell? ⟨X, j, none⟩ = cs[j]? := by
  simp [World.cell?, h]
theorem okV_all {x : Cmd} (h : okV x = true) : ∃ f, formV x.k = some f ∧ f.regs ≤ 3 := by
  unfold okV at h
  cases hf : formV x.k with
  | none => rw [hf] at h; cases h
  | some f => exact ⟨f, rfl, formV_regs hf⟩

/-- the state behind an append: the row, and the two boxes -/
structure EncSt (H Z0 Z1 : Nat) (w : World) (ocs fcs : Array Value) (W : World) (v : Value) (n : Nat) : Prop where
  row : BRow H W v n
  bel : Below H w W
  le : H ≤ W.heap.size
  o : W.heap[Z0]? = some (.cells ocs 79 (0, 0))
  f : W.heap[Z1]? = some (.cells fcs 340 (0, 0))
theorem EncSt.grown {H Z0 Z1 : Nat} {w W w1 : World} {ocs fcs : Array Value} {v v' : Value} {n n' : Nat} (h : EncSt H Z0 Z1 w ocs fcs W v n) (x : Obj) (hr : BRow H w1 v' n') (hg : (W.alloc x).grownBy w1 v.ownBlock) : EncSt H Z0 Z1 w ocs fcs w1 v' n' :=
  ⟨hr, (h.bel.alloc h.le x).grown hg (by have := h.le; simp; omega) (fun k hk => (h.row.lt hk).1), by have := h.le; have := hg.size; simp at this; omega,
    blk_grown hg (blk_old h.o x) (h.row.ne h.o (by decide)), blk_grown hg (blk_old h.f x) (h.row.ne h.f (by decide))⟩
theorem EncSt.alloc {H Z0 Z1 : Nat} {w W : World} {ocs fcs : Array Value} {v : Value} {n : Nat} (h : EncSt H Z0 Z1 w ocs fcs W v n) (x : Obj) : EncSt H Z0 Z1 w ocs fcs (W.alloc x) v n :=
  ⟨h.row.alloc x, h.bel.alloc h.le x, by have := h.le; simp; omega, blk_old h.o x, blk_old h.f x⟩
theorem EncSt.grown0 {H Z0 Z1 : Nat} {w W w1 : World} {ocs fcs : Array Value} {v v' : Value} {n n' : Nat} (h : EncSt H Z0 Z1 w ocs fcs W v n) (hr : BRow H w1 v' n') (hg : W.grownBy w1 v.ownBlock) : EncSt H Z0 Z1 w ocs fcs w1 v' n' :=
  ⟨hr, h.bel.grown hg h.le (fun k hk => (h.row.lt hk).1), Nat.le_trans h.le hg.size, blk_grown hg h.o (h.row.ne h.o (by decide)), blk_grown hg h.f (h.row.ne h.f (by decide))⟩
theorem byteInfo : (Tryz.prog.info? 5).map (fun i => (i.zero, i.size, i.bytes)) = some (some (.int .u8 0), 1, 1) := by kernel_rfl
theorem wpList_append_b {H : Nat} {w : World} {ops : Array Oper} {rest : List Oper} {o : Oper} {a : Act} {Q : Exit → Act → World → Prop} (hgd : o.guard = none) (s x : Operand)
    (ho : o.op = .call { callee := .builtin .append, args := #[s, x], argTypes := #[114, 114] })
    (v : Value) (n : Nat) (hs : a.eval s = v) (hrow : BRow H w v n) (ad : Addr) (m c : Nat) (hx : a.eval x = .slice (some ad) m c) (ys : List Int) (hl : ys.length = m)
    (hnews : ∀ j u, (ys.map (Value.int .u8))[j]? = some u → w.cell? (ad.add j) = some u) (hb : n + m ≤ 1000000000) (hbase : H ≤ w.heap.size)
    (h : ∀ A' c' w', BRow H w' (.slice A' (n + m) c') (n + m) → w.grownBy w' v.ownBlock → wpList Tryz.prog ops Q rest (a.put o.dst (.slice A' (n + m) c')) w') : wpList Tryz.prog ops Q (o :: rest) a w := by
  obtain ⟨i0, hi0, hz0, hz1, hz2⟩ := info_parts byteInfo
  obtain ⟨xs, h1, h2⟩ := hrow
  refine wpList_append_own w hgd s x 114 ho H 5 i0 (.int .u8 0) 1 1 Tryz.underlying114 hi0 hz0 hz1 hz2 rfl (by decide) v n _ hs h2 ad m c (ys.map (Value.int .u8)) hx (by simp [hl]) hnews (by simp [Value.oneCell']) (by unfold maxLen; omega) (by omega) hbase ?_
  intro v' w' ho' hg _
  have hr := BRow.add h1 hl ho'
  obtain ⟨A', c', rfl⟩ := hr.slice
  exact h A' c' w' hr hg
theorem news_b (W : World) (x : Int) : ∀ j u, ([x].map (Value.int .u8))[j]? = some u → (W.alloc (.cells #[.int .u8 x] 5 (0, 0))).cell? ((⟨W.heap.size, 0, none⟩ : Addr).add j) = some u := World.news_of_block (heap_alloc_new W _)
theorem news_r (W : World) (Z r : Nat) (a b d : Int) (h : W.heap[Z]? = some (.cells #[.int .u8 a, .int .u8 b, .int .u8 d] 121 (0, 0))) : ∀ j u, (([a, b, d].take r).map (Value.int .u8))[j]? = some u → W.cell? ((⟨Z, 0, none⟩ : Addr).add j) = some u := fun j u hu => by
  refine World.news_of_block h j u ?_
  rw [List.map_take, List.getElem?_take] at hu
  split at hu
  · exact hu
  · cases hu
theorem end_es {a b : Int} {s : ByteArray} (h : a = b) : ∃ s' : ByteArray, Ending.returned (.tuple #[.string s, .int .i64 a]) = .returned (.tuple #[.string s', .int .i64 b]) := ⟨s, by rw [h]⟩
theorem below_grown {H : Nat} {w W w1 : World} {v : Value} {n : Nat} (hb : Below H w W) (hg : W.grownBy w1 v.ownBlock) (hr : BRow H W v n) (hH : H ≤ W.heap.size) : Below H w w1 := hb.grown hg hH fun k hk => (hr.lt hk).1

set_option maxHeartbeats 8000000 in
set_option maxRecDepth 100000 in
theorem encode_any (A : Option Addr) (c : Nat) (l : List Cmd) (w : World) (hl : CmdsAt w w.heap.size A l) (hn : l.length ≤ 140737488355328) :
    Calls Tryz.prog 170 #[.slice A l.length c] w fun e w' => (∃ s : ByteArray, e = .returned (.tuple #[.string s, .int .i64 (if l.length > 262144 then 3 else if l.all okV then 0 else 1)])) ∧ Below w.heap.size w w' := by
  obtain ⟨V, hV⟩ : ∃ V : Int, (if l.length > 262144 then 3 else if l.all okV then 0 else 1) = V := ⟨_, rfl⟩
  rw [hV]
  by_cases hbig : l.length > 262144
  · have HV : Hid ((3 : Int) = V) := Lib.hid (by rw [← hV, if_pos hbig])
    have p : (262144 : Int) < (l.length : Int) := by omega
    clear hV hl
    go_enter Tryz.func170, Tryz.ntmps170
    go_wp2_with fail
    go_ret2
    exact ⟨end_es HV.out, Below.refl _ _⟩
  · have HV : Hid ((if l.all okV then 0 else 1 : Int) = V) := Lib.hid (by rw [← hV, if_neg hbig])
    have p : ¬ (262144 : Int) < (l.length : Int) := by omega
    obtain ⟨H, hH⟩ : ∃ H, w.heap.size = H := ⟨_, rfl⟩
    rw [hH] at hl
    have HL : Hid (∀ W, Below H w W → CmdsAt W H A l) := Lib.hid fun W hb => hl.below hb (Nat.le_refl _)
    have HK := Lib.hid icheck_any
    have HF := Lib.hid form_some
    clear hV hl
    go_enter Tryz.func170, Tryz.ntmps170
    go_wp2_with fail
    go_loopw [17, 4] (fun i b wr => ∃ (j n : Nat) (A1 : Option Addr) (c1 : Nat), i = .int .i64 j ∧ b = .slice A1 n c1 ∧ j ≤ l.length ∧ n ≤ 13 * j ∧ Hid (BRow H wr (.slice A1 n c1) n) ∧ Hid (Below H w wr) ∧ Hid (∀ k x, k < j → l[k]? = some x → okV x = true)) (fun i _ _ => l.length - (intOf i).toNat)
    case atStart => exact ⟨0, 0, none, 0, rfl, rfl, by omega, by omega, Lib.hid ⟨[], rfl, rfl, .inl ⟨rfl, rfl⟩⟩, Lib.hid (Below.refl _ _), Lib.hid fun k x hk => by omega⟩
    case round =>
      obtain ⟨j, n, A1, c1, rfl, rfl, hj, hn1, hrow, hW, hok⟩ := hrel
      by_cases hlt : j < l.length
      · obtain ⟨b, off, rfl, hbl, hc⟩ := HL.out _ hW.out (by rintro rfl; simp at hlt)
        have hx := hc j _ (List.getElem?_eq_getElem hlt)
        have HX := Lib.hid (List.getElem?_eq_getElem hlt)
        clear hc
        generalize l[j] = x at *
        obtain ⟨xk, xc, xa, xb, xd, xn⟩ := x
        have x0 := hx.c0
        have x1 := hx.c1
        have x2 := hx.c2
        have x3 := hx.c3
        have x4 := hx.c4
        have x5 := hx.c5
        dsimp only at x0 x1 x2 x3 x4 x5
        have p1 : (j : Int) < (l.length : Int) := by omega
        have p2 : (0 : Int) ≤ (j : Int) := Int.natCast_nonneg _
        clear hx
        cases hx : okV ⟨xk, xc, xa, xb, xd, xn⟩
        · have C1 : Hid (∀ W, Calls Tryz.prog 110 #[.agg #[.int .u8 xk, .int .u8 xc, .int .u8 xa, .int .u8 xb, .int .u8 xd, .int .i64 xn]] W fun e w' => e = .returned (.int .i64 1) ∧ Below W.heap.size W w') := Lib.hid fun W => by
            have h := HK.out xk xc xa xb xd xn W
            rw [show okE ⟨xk, xc, xa, xb, xd, xn⟩ = 1 by unfold okE; rw [hx]; rfl] at h
            exact h
          have HE : Hid ((1 : Int) = V) := Lib.hid (by rw [← HV.out, if_neg (fun h => by rw [List.all_eq_true.1 h _ (List.mem_of_getElem? HX.out)] at hx; cases hx)])
          clear hx HK HF HX HL hok hrow
          go_wp2_with fail
          refine (C1.out _).mono ?_
          rintro e w1 ⟨rfl, hb1⟩
          have HB1 : Hid (Below H w w1) := Lib.hid (((hW.out.alloc (by have := hW.out.size; omega) _).trans (hb1.mono (by have := hW.out.size; simp; omega))))
          clear hb1
          go_wp2_with fail
          go_ret2
          exact ⟨end_es HE.out, by first | exact HB1.out | (rw [hH]; exact HB1.out)⟩
        · have C1 : Hid (∀ W, Calls Tryz.prog 110 #[.agg #[.int .u8 xk, .int .u8 xc, .int .u8 xa, .int .u8 xb, .int .u8 xd, .int .i64 xn]] W fun e w' => e = .returned (.int .i64 0) ∧ Below W.heap.size W w') := Lib.hid fun W => by
            have h := HK.out xk xc xa xb xd xn W
            rw [show okE ⟨xk, xc, xa, xb, xd, xn⟩ = 0 by unfold okE; rw [hx]; rfl] at h
            exact h
          obtain ⟨f, hf, hr3⟩ := okV_all hx
          have C2 := Lib.hid (HF.out xk f hf)
          have HOK : Hid (∀ k x, k < j + 1 → l[k]? = some x → okV x = true) := Lib.hid fun k y hk hy => by
            rcases Nat.lt_or_ge k j with h | h
            · exact hok.out k y h hy
            · obtain rfl : k = j := by omega
              rw [HX.out] at hy
              injection hy with hy
              rw [← hy]; exact hx
          obtain ⟨cal, r, num, lo, hi, jump⟩ := f
          dsimp only at C2 hr3
          clear hx hf HK HF HX HL hok
          have HO : Hid (∀ W W', (wr.alloc (.cells #[.int .u8 xk, .int .u8 xc, .int .u8 xa, .int .u8 xb, .int .u8 xd, .int .i64 xn] 79 (0, 0))) = W → Below W.heap.size W W' → BRow H W' (.slice A1 n c1) n ∧ Below H w W' ∧ H ≤ W'.heap.size ∧ W'.heap[wr.heap.size]? = some (.cells #[.int .u8 xk, .int .u8 xc, .int .u8 xa, .int .u8 xb, .int .u8 xd, .int .i64 xn] 79 (0, 0))) := Lib.hid fun W W' hW1 hb => by
            subst hW1
            have hs := hW.out.size
            refine ⟨(hrow.out.alloc _).below hb, (hW.out.alloc (by omega) _).trans (hb.mono (by simp; omega)), ?_, blk_below (heap_alloc_new wr _) hb⟩
            have := hb.size
            simp at this
            omega
          clear hrow
          go_wp2_with fail
          refine (C1.out _).mono ?_
          rintro e w1 ⟨rfl, hb1⟩
          obtain ⟨r1, b1, s1, o1⟩ := HO.out _ _ rfl hb1
          generalize wr.heap.size = Z0 at *
          clear hb1 HO x0 x1 x2 x3 x4 x5
          have z0 := cell_of o1 0
          simp only [List.getElem?_toArray, List.getElem?_cons_zero] at z0
          have HB1 := Lib.hid b1
          have HR1 := Lib.hid r1
          have HO1 := Lib.hid o1
          clear b1 r1 o1
          go_wp2_with fail
          refine (C2.out _).mono ?_
          rintro e w2 ⟨rfl, hb2⟩
          obtain ⟨w3, hw3⟩ : ∃ w3, w2.alloc (.cells #[.bool cal, .int .i64 r, .bool num, .int .i64 lo, .int .i64 hi] 340 (0, 0)) = w3 := ⟨_, rfl⟩
          have hb3 : Below w2.heap.size w2 w3 := by rw [← hw3]; exact (Below.refl _ _).alloc (Nat.le_refl _) _
          have f3 : w3.heap[w2.heap.size]? = some (.cells #[.bool cal, .int .i64 r, .bool num, .int .i64 lo, .int .i64 hi] 340 (0, 0)) := by rw [← hw3]; exact heap_alloc_new w2 _
          have hb13 := hb2.trans (hb3.mono hb2.size)
          have S3 : Hid (EncSt H Z0 w2.heap.size w #[.int .u8 xk, .int .u8 xc, .int .u8 xa, .int .u8 xb, .int .u8 xd, .int .i64 xn] #[.bool cal, .int .i64 r, .bool num, .int .i64 lo, .int .i64 hi] w3 (.slice A1 n c1) n) := Lib.hid ⟨HR1.out.below hb13, HB1.out.trans (hb13.mono s1), Nat.le_trans s1 hb13.size, blk_below HO1.out hb13, f3⟩
          obtain ⟨Z1, hZ1⟩ : ∃ Z1, w2.heap.size = Z1 := ⟨_, rfl⟩
          rw [hZ1] at S3
          clear hb2 hb3 hb13 HB1 HR1 HO1 s1 f3 z0
          have q0 : (0 : Int) ≤ (r : Int) := Int.natCast_nonneg _
          have q1 : (r : Int) ≤ 3 := by omega
          have hl0 : n ≤ 4000000 := by omega
          have z0 := cell_of S3.out.o 0
          have z1 := cell_of S3.out.o 1
          have z2 := cell_of S3.out.o 2
          have z3 := cell_of S3.out.o 3
          have z4 := cell_of S3.out.o 4
          have z5 := cell_of S3.out.o 5
          have y0 := cell_of S3.out.f 0
          have y1 := cell_of S3.out.f 1
          have y2 := cell_of S3.out.f 2
          simp only [List.getElem?_toArray, List.getElem?_cons_zero, List.getElem?_cons_succ] at z0 z1 z2 z3 z4 z5 y0 y1 y2
          go_wp2_with (at_builtin; refine wpList_append_b rfl _ _ rfl (.slice A1 (n) c1) (n) rfl (S3.out.row.alloc _) ⟨_, 0, none⟩ 1 1 rfl [xk] rfl ?c1 ?c2 ?c3 ?_)
          case c1 => exact news_b _ _
          case c2 => omega
          case c3 => have := S3.out.le; simp; omega
          intro A4 c4 w4 hr hg
          have S4 := Lib.hid (S3.out.grown _ hr hg)
          clear hr hg z0 z1 z2 z3 z4 z5 y0 y1 y2
          have z0 := cell_of S4.out.o 0
          have z1 := cell_of S4.out.o 1
          have z2 := cell_of S4.out.o 2
          have z3 := cell_of S4.out.o 3
          have z4 := cell_of S4.out.o 4
          have z5 := cell_of S4.out.o 5
          have y0 := cell_of S4.out.f 0
          have y1 := cell_of S4.out.f 1
          have y2 := cell_of S4.out.f 2
          simp only [List.getElem?_toArray, List.getElem?_cons_zero, List.getElem?_cons_succ] at z0 z1 z2 z3 z4 z5 y0 y1 y2
          clear hw3 S3
          cases cal
          · skip
            obtain ⟨wA, hwA⟩ : ∃ wA, w4.alloc (.cells #[.int .u8 xa, .int .u8 xb, .int .u8 xd] 121 (0, 0)) = wA := ⟨_, rfl⟩
            obtain ⟨Z2, hZ2⟩ : ∃ Z2, w4.heap.size = Z2 := ⟨_, rfl⟩
            have SA := Lib.hid (show EncSt H Z0 Z1 w _ _ wA (.slice A4 (n + 1) c4) (n + 1) from hwA ▸ S4.out.alloc _)
            have fA : wA.heap[Z2]? = some (.cells #[.int .u8 xa, .int .u8 xb, .int .u8 xd] 121 (0, 0)) := by rw [← hwA, ← hZ2]; exact heap_alloc_new _ _
            have HfA := Lib.hid fA
            clear fA
            have u0 := cell_of SA.out.o 0
            have u1 := cell_of SA.out.o 1
            have v1 := cell_of SA.out.f 1
            simp only [List.getElem?_toArray, List.getElem?_cons_zero, List.getElem?_cons_succ] at u0 u1 v1
            have sh : wA.shape? Z2 = some (121, 3) := by simp [World.shape?, HfA.out]
            go_wp2_with (at_builtin; refine wpList_append_b rfl _ _ rfl (.slice A4 (n + 1) c4) (n + 1) rfl (SA.out.row) ⟨Z2, 0, none⟩ r 3 rfl ([xa, xb, xd].take r) ?c0 ?c1 ?c2 ?c3 ?_)
            case c0 => simp; omega
            case c1 => exact news_r _ _ _ _ _ _ HfA.out
            case c2 => omega
            case c3 => exact SA.out.le
            intro A6 c6 w6 hr hg
            have S6 := Lib.hid (SA.out.grown0 hr hg)
            clear hr hg z0 z1 y0 y1 y2 HfA hwA hZ2 SA sh z2 z3 z4 z5 u0 u1 v1
            have z0 := cell_of S6.out.o 0
            have z1 := cell_of S6.out.o 1
            have z2 := cell_of S6.out.o 2
            have z3 := cell_of S6.out.o 3
            have z4 := cell_of S6.out.o 4
            have z5 := cell_of S6.out.o 5
            have y0 := cell_of S6.out.f 0
            have y1 := cell_of S6.out.f 1
            have y2 := cell_of S6.out.f 2
            simp only [List.getElem?_toArray, List.getElem?_cons_zero, List.getElem?_cons_succ] at z0 z1 z2 z3 z4 z5 y0 y1 y2
            cases num
            · go_wp2_with fail
              go_roundw
              case rel => exact ⟨j + 1, n + 1 + r, A6, c6, by go_num, rfl, by omega, by omega, Lib.hid S6.out.row, Lib.hid S6.out.bel, HOK⟩
              case measure => simp [intOf]; omega
            · clear y0 y1 z0 z1 z2 z3 z4
              go_wp2_with fail
              clear z5 y2
              go_loopw [11, 4] (fun i v wr => ∃ (t : Nat) (I : Int) (A7 : Option Addr) (c7 : Nat), i = .int .i64 I ∧ I = 56 - 8 * (t : Int) ∧ v = .slice A7 (n + 1 + r + t) c7 ∧ t ≤ 8 ∧ Hid (EncSt H Z0 Z1 w #[.int .u8 xk, .int .u8 xc, .int .u8 xa, .int .u8 xb, .int .u8 xd, .int .i64 xn] #[.bool false, .int .i64 r, .bool true, .int .i64 lo, .int .i64 hi] wr (.slice A7 (n + 1 + r + t) c7) (n + 1 + r + t))) (fun i _ _ => (intOf i + 8).toNat)
              case atStart => exact ⟨0, 56, A6, c6, rfl, rfl, rfl, by omega, S6⟩
              case round =>
                obtain ⟨t, I, A7, c7, rfl, hI, rfl, ht, S7⟩ := hrel
                by_cases h8 : t < 8
                · have g1 : decide ((0 : Int) ≤ I) = true := by simp; omega
                  have g2 : (0 : Int) ≤ I := by omega
                  have z5 := cell_of S7.out.o 5
                  simp only [List.getElem?_toArray, List.getElem?_cons_zero, List.getElem?_cons_succ] at z5
                  have hle := S7.out.le
                  go_wp2_with (at_builtin; refine wpList_append_b rfl _ _ rfl (.slice A7 (n + 1 + r + t) c7) (n + 1 + r + t) rfl (S7.out.row.alloc _) ⟨_, 0, none⟩ 1 1 rfl [xn / 2 ^ (56 - 8 * t) % 256] rfl ?c1 ?c2 ?c3 ?_)
                  case c1 => exact news_b _ _
                  case c2 => omega
                  case c3 => simp; omega
                  intro A8 c8 w8 hr hg
                  have S8 := Lib.hid (S7.out.grown _ hr hg)
                  clear hr hg z5 g1 S7 hle
                  go_wp2_with fail
                  go_roundw
                  case rel => exact ⟨t + 1, I - 8, A8, c8, by go_num, by omega, rfl, by omega, S8⟩
                  case measure => simp [intOf]; omega
                · have g1 : decide ((0 : Int) ≤ I) = false := by simp; omega
                  have g2 : ¬ (0 : Int) ≤ I := by omega
                  obtain rfl : t = 8 := by omega
                  clear hI
                  go_wp2_with fail
                  go_roundw
                  case rel => exact ⟨j + 1, n + 1 + r + 8, A7, c7, by go_num, rfl, by omega, by omega, Lib.hid S7.out.row, Lib.hid S7.out.bel, HOK⟩
                  case measure => simp [intOf]; omega
          · skip
            go_wp2_with (at_builtin; refine wpList_append_b rfl _ _ rfl (.slice A4 (n + 1) c4) (n + 1) rfl (S4.out.row.alloc _) ⟨_, 0, none⟩ 1 1 rfl [xc] rfl ?c1 ?c2 ?c3 ?_)
            case c1 => exact news_b _ _
            case c2 => omega
            case c3 => have := S4.out.le; simp; omega
            intro A5 c5 w5 hr hg
            have S5 := Lib.hid (S4.out.grown _ hr hg)
            clear hr hg z0 z1 z2 z3 z4 z5 y0 y1 y2
            have z0 := cell_of S5.out.o 0
            have z1 := cell_of S5.out.o 1
            have z2 := cell_of S5.out.o 2
            have z3 := cell_of S5.out.o 3
            have z4 := cell_of S5.out.o 4
            have z5 := cell_of S5.out.o 5
            have y0 := cell_of S5.out.f 0
            have y1 := cell_of S5.out.f 1
            have y2 := cell_of S5.out.f 2
            simp only [List.getElem?_toArray, List.getElem?_cons_zero, List.getElem?_cons_succ] at z0 z1 z2 z3 z4 z5 y0 y1 y2
            clear S4
            obtain ⟨wA, hwA⟩ : ∃ wA, w5.alloc (.cells #[.int .u8 xa, .int .u8 xb, .int .u8 xd] 121 (0, 0)) = wA := ⟨_, rfl⟩
            obtain ⟨Z2, hZ2⟩ : ∃ Z2, w5.heap.size = Z2 := ⟨_, rfl⟩
            have SA := Lib.hid (show EncSt H Z0 Z1 w _ _ wA (.slice A5 (n + 1 + 1) c5) (n + 1 + 1) from hwA ▸ S5.out.alloc _)
            have fA : wA.heap[Z2]? = some (.cells #[.int .u8 xa, .int .u8 xb, .int .u8 xd] 121 (0, 0)) := by rw [← hwA, ← hZ2]; exact heap_alloc_new _ _
            have HfA := Lib.hid fA
            clear fA
            have u0 := cell_of SA.out.o 0
            have u1 := cell_of SA.out.o 1
            have v1 := cell_of SA.out.f 1
            simp only [List.getElem?_toArray, List.getElem?_cons_zero, List.getElem?_cons_succ] at u0 u1 v1
            have sh : wA.shape? Z2 = some (121, 3) := by simp [World.shape?, HfA.out]
            go_wp2_with (at_builtin; refine wpList_append_b rfl _ _ rfl (.slice A5 (n + 1 + 1) c5) (n + 1 + 1) rfl (SA.out.row) ⟨Z2, 0, none⟩ r 3 rfl ([xa, xb, xd].take r) ?c0 ?c1 ?c2 ?c3 ?_)
            case c0 => simp; omega
            case c1 => exact news_r _ _ _ _ _ _ HfA.out
            case c2 => omega
            case c3 => exact SA.out.le
            intro A6 c6 w6 hr hg
            have S6 := Lib.hid (SA.out.grown0 hr hg)
            clear hr hg z0 z1 y0 y1 y2 HfA hwA hZ2 SA sh z2 z3 z4 z5 u0 u1 v1
            have z0 := cell_of S6.out.o 0
            have z1 := cell_of S6.out.o 1
            have z2 := cell_of S6.out.o 2
            have z3 := cell_of S6.out.o 3
            have z4 := cell_of S6.out.o 4
            have z5 := cell_of S6.out.o 5
            have y0 := cell_of S6.out.f 0
            have y1 := cell_of S6.out.f 1
            have y2 := cell_of S6.out.f 2
            simp only [List.getElem?_toArray, List.getElem?_cons_zero, List.getElem?_cons_succ] at z0 z1 z2 z3 z4 z5 y0 y1 y2
            cases num
            · go_wp2_with fail
              go_roundw
              case rel => exact ⟨j + 1, n + 1 + 1 + r, A6, c6, by go_num, rfl, by omega, by omega, Lib.hid S6.out.row, Lib.hid S6.out.bel, HOK⟩
              case measure => simp [intOf]; omega
            · clear y0 y1 z0 z1 z2 z3 z4
              go_wp2_with fail
              clear z5 y2
              go_loopw [11, 4] (fun i v wr => ∃ (t : Nat) (I : Int) (A7 : Option Addr) (c7 : Nat), i = .int .i64 I ∧ I = 56 - 8 * (t : Int) ∧ v = .slice A7 (n + 1 + 1 + r + t) c7 ∧ t ≤ 8 ∧ Hid (EncSt H Z0 Z1 w #[.int .u8 xk, .int .u8 xc, .int .u8 xa, .int .u8 xb, .int .u8 xd, .int .i64 xn] #[.bool true, .int .i64 r, .bool true, .int .i64 lo, .int .i64 hi] wr (.slice A7 (n + 1 + 1 + r + t) c7) (n + 1 + 1 + r + t))) (fun i _ _ => (intOf i + 8).toNat)
              case atStart => exact ⟨0, 56, A6, c6, rfl, rfl, rfl, by omega, S6⟩
              case round =>
                obtain ⟨t, I, A7, c7, rfl, hI, rfl, ht, S7⟩ := hrel
                by_cases h8 : t < 8
                · have g1 : decide ((0 : Int) ≤ I) = true := by simp; omega
                  have g2 : (0 : Int) ≤ I := by omega
                  have z5 := cell_of S7.out.o 5
                  simp only [List.getElem?_toArray, List.getElem?_cons_zero, List.getElem?_cons_succ] at z5
                  have hle := S7.out.le
                  go_wp2_with (at_builtin; refine wpList_append_b rfl _ _ rfl (.slice A7 (n + 1 + 1 + r + t) c7) (n + 1 + 1 + r + t) rfl (S7.out.row.alloc _) ⟨_, 0, none⟩ 1 1 rfl [xn / 2 ^ (56 - 8 * t) % 256] rfl ?c1 ?c2 ?c3 ?_)
                  case c1 => exact news_b _ _
                  case c2 => omega
                  case c3 => simp; omega
                  intro A8 c8 w8 hr hg
                  have S8 := Lib.hid (S7.out.grown _ hr hg)
                  clear hr hg z5 g1 S7 hle
                  go_wp2_with fail
                  go_roundw
                  case rel => exact ⟨t + 1, I - 8, A8, c8, by go_num, by omega, rfl, by omega, S8⟩
                  case measure => simp [intOf]; omega
                · have g1 : decide ((0 : Int) ≤ I) = false := by simp; omega
                  have g2 : ¬ (0 : Int) ≤ I := by omega
                  obtain rfl : t = 8 := by omega
                  clear hI
                  go_wp2_with fail
                  go_roundw
                  case rel => exact ⟨j + 1, n + 1 + 1 + r + 8, A7, c7, by go_num, rfl, by omega, by omega, Lib.hid S7.out.row, Lib.hid S7.out.bel, HOK⟩
                  case measure => simp [intOf]; omega
      · have hall : l.all okV = true := List.all_eq_true.2 fun x hx => by
          obtain ⟨k, hk, rfl⟩ := List.getElem_of_mem hx
          exact hok.out k _ (by omega) (List.getElem?_eq_getElem hk)
        have HE : Hid ((0 : Int) = V) := Lib.hid (by rw [← HV.out, if_pos hall])
        obtain ⟨s, hs⟩ := hrow.out.conv
        have p1 : ¬ ((j : Int) < (l.length : Int)) := by omega
        clear hok hall HL HK HF hrow
        go_wp2_with fail
        go_ret2
        exact ⟨end_es HE.out, by first | exact hW.out | (rw [hH]; exact hW.out)⟩
end Go.Proofs.YtkkcngppmhebbaaGreatDoor
