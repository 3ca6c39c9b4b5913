/-
  asm.Parse walked.
-/
import Derived.Test.YtkkcngppmhebbaaGreatDoorAsmIns
import Derived.Test.YtkkcngppmhebbaaGreatDoorAsmLib
import Derived.Test.YtkkcngppmhebbaaGreatDoorAsmParseP
import Derived.WideMake
set_option linter.unusedVariables false
set_option linter.unusedSimpArgs false
namespace Go.Proofs.YtkkcngppmhebbaaGreatDoor
open Go.RowKit

theorem own_mono {w : World} {B B' e k n : Nat} {v : Value} {xs : List Value} (h : w.ownsRow B e k v n xs) (hb : B' ≤ B) : w.ownsRow B' e k v n xs :=
  ⟨h.1, h.2.imp id fun ⟨g, cap, cur, h1, h2, h3⟩ => ⟨g, cap, cur, h1, Nat.le_trans hb h2, h3⟩⟩
/-- what a reading answers -/
def ParsedIs (R : List Cmd ⊕ (Nat × Int)) (H : Nat) (e : Ending) (w' : World) : Prop := match R with
  | .inl l => ∃ v, e = .returned (.tuple #[v, .int .i64 0, .int .i64 0]) ∧ w'.ownsRow H 79 6 v l.length (l.flatMap Cmd.cells)
  | .inr (n, er) => e = .returned (.tuple #[.slice none 0 0, .int .i64 n, .int .i64 er])
/-- between lines -/
structure PaSt (H RB MB Lb : Nat) (ls : List (List UInt8)) (w : World) (r : Rd) (W : World) : Prop where
  rd : RdIs H RB MB r W
  ln : W.heap[Lb]? = some (.cells (ls.map fun x => Value.string ⟨x.toArray⟩).toArray 9 (0, 0))
  bel : Below H w W
  hs : H ≤ w.heap.size
theorem PaSt.below {H RB MB Lb : Nat} {ls : List (List UInt8)} {w W W' : World} {r : Rd} (h : PaSt H RB MB Lb ls w r W) (hb : Below W.heap.size W W') : PaSt H RB MB Lb ls w r W' :=
  ⟨h.rd.below hb, blk_below h.ln hb, h.bel.trans (hb.mono (Nat.le_trans h.hs h.bel.size)), h.hs⟩
theorem PaSt.turned {H RB MB Lb : Nat} {ls : List (List UInt8)} {w W W' : World} {r r' : Rd} (h : PaSt H RB MB Lb ls w r W) (hr : RdIs H RB MB r' W') (hf : FrB H okT W W') : PaSt H RB MB Lb ls w r' W' :=
  ⟨hr, hf.obj h.ln (by decide), h.bel.trans (hf.below (Nat.le_trans h.hs h.bel.size)), h.hs⟩
/-- what comes behind the lines -/
def after (i : Nat) (r : Rd) (ls : List (List UInt8)) : List Cmd ⊕ (Nat × Int) := match runV r i ls with
  | .inr e => .inr e
  | .inl r => match goalsV r.labels r.ops r.goals with
    | .inl l => .inl l
    | .inr line => .inr (line, 9)
theorem PaSt.line {H RB MB Lb : Nat} {ls : List (List UInt8)} {w W : World} {r : Rd} (h : PaSt H RB MB Lb ls w r W) {i : Nat} {l : List UInt8} (hl : ls[i]? = some l) : W.cell? ⟨Lb, i, none⟩ = some (.string ⟨l.toArray⟩) := by
  have := cell_of h.ln i
  rw [List.getElem?_toArray, List.getElem?_map, hl] at this
  exact this
theorem PaSt.box {H RB MB Lb : Nat} {ls : List (List UInt8)} {w W : World} {r : Rd} (h : PaSt H RB MB Lb ls w r W) : ∃ vl vg, RdAt H RB MB r vl vg W := h.rd
theorem after_nil (i : Nat) (r : Rd) : after i r [] = (match goalsV r.labels r.ops r.goals with | .inl l => .inl l | .inr line => .inr (line, 9)) := by
  unfold after; rw [runV]
theorem after_cons (i : Nat) (r : Rd) (l : List UInt8) (ls : List (List UInt8)) : after i r (l :: ls) = match lineV r i (wordsV l) with
    | .inl r' => after (i + 1) r' ls
    | .inr e => .inr (i, e) := by
  unfold after
  rw [runV_cons]
  cases lineV r i (wordsV l) <;> rfl

theorem PaSt.labelled {H RB MB Lb : Nat} {ls : List (List UInt8)} {w W W' : World} {r : Rd} {nm : List UInt8} (h : PaSt H RB MB Lb ls w r W) (hlk : lookV nm r.labels = none) (hMB : H ≤ MB) (hne : RB ≠ MB)
    (hs : StrMap Tryz.prog 9 3 W' MB (r.labels.length + 1) (fun y => if y = nm then some (r.ops.length : Int) else (lookV y r.labels).map Int.ofNat)) (hg : W.grownBy W' (some MB)) :
    PaSt H RB MB Lb ls w { r with labels := r.labels ++ [(nm, r.ops.length)] } W' := by
  obtain ⟨vl, vg, hrd⟩ := h.rd
  have notMap : ∀ {k : Nat} {cs : Array Value} {T : TypeId} {fz : Nat × Nat}, W.heap[k]? = some (.cells cs T fz) → some k ≠ some MB := fun hk e => by
    injection e with e
    obtain ⟨es, cl, hm⟩ := hrd.map.block
    rw [← e, hk] at hm; cases hm
  refine ⟨⟨vl, vg, ⟨?_, ?_, ?_, ?_⟩⟩, ?_, h.bel.grown hg (Nat.le_trans h.hs h.bel.size) (fun k hk => by injection hk with hk; omega), h.hs⟩
  · exact (hg.block RB hrd.lt (fun e => hne (by injection e))).trans hrd.blk
  · exact own_keptBy hrd.ops hg (fun g hgo e => by
      obtain ⟨-, cs, hcs⟩ := own_kind hrd.ops hgo
      exact notMap hcs e.symm)
  · exact own_keptBy hrd.goals hg (fun g hgo e => by
      obtain ⟨-, cs, hcs⟩ := own_kind hrd.goals hgo
      exact notMap hcs e.symm)
  · have e : (r.labels ++ [(nm, r.ops.length)]).length = r.labels.length + 1 := by simp
    dsimp only
    rw [e]
    exact hs.congr fun y => by
      rw [lookV_snoc y nm r.ops.length r.labels hlk]
      by_cases hy : y = nm
      · rw [if_pos hy, if_pos hy]; rfl
      · rw [if_neg hy, if_neg hy]
  · exact (hg.block Lb (Array.getElem?_eq_some_iff.1 h.ln).1 (notMap h.ln)).trans h.ln
theorem setN_len' (l : List Cmd) (i : Nat) (n : Int) : (setN l i n).length = l.length := by unfold setN; split <;> simp
/-- what the look-up of a label reads -/
abbrev LkS (RB MB Xg : Nat) (gw : List UInt8) (lv : Int) (lb : Bool) (W : World) : Prop := W.cell? ⟨RB, 1, none⟩ = some (.map (some MB)) ∧ W.cell? ⟨Xg, 2, none⟩ = some (.string ⟨gw.toArray⟩) ∧
  (Instr.lookup 60 (.map (some MB)) (.string ⟨gw.toArray⟩) true).run Tryz.prog W = .ok (.tuple #[.int .i64 lv, .bool lb]) W
/-- among the jumps -/
structure GoSt (H RB MB : Nat) (w : World) (r : Rd) (Al : Option Addr) (cl : Nat) (Ag : Option Addr) (cg : Nat) (ops : List Cmd) (W : World) : Prop where
  rd : RdAt H RB MB { r with ops := ops } (.slice Al r.ops.length cl) (.slice Ag r.goals.length cg) W
  len : ops.length = r.ops.length
  bel : Below H w W
  hs : H ≤ w.heap.size
  hRB : H ≤ RB
section
variable {H RB MB : Nat} {w W W' : World} {r : Rd} {Al Ag : Option Addr} {cl cg : Nat} {ops : List Cmd}
theorem GoSt.below (h : GoSt H RB MB w r Al cl Ag cg ops W) (hb : Below W.heap.size W W') : GoSt H RB MB w r Al cl Ag cg ops W' :=
  ⟨h.rd.below hb, h.len, h.bel.trans (hb.mono (Nat.le_trans h.hs h.bel.size)), h.hs, h.hRB⟩
theorem GoSt.goal (h : GoSt H RB MB w r Al cl Ag cg ops W) {k : Nat} {g : Nat × Nat × List UInt8} (hk : r.goals[k]? = some g) :
    ∃ gb, Ag = some ⟨gb, 0, none⟩ ∧ W.cell? ⟨gb, k * 3, none⟩ = some (.int .i64 g.1) ∧ W.cell? ⟨gb, k * 3 + 1, none⟩ = some (.int .i64 g.2.1) ∧ W.cell? ⟨gb, k * 3 + 2, none⟩ = some (.string ⟨g.2.2.toArray⟩) := by
  have hlt := (List.getElem?_eq_some_iff.1 hk).1
  have ho := h.rd.goals
  dsimp only at ho
  obtain ⟨gb, hgb⟩ : ∃ gb, Ag = some ⟨gb, 0, none⟩ := by
    rcases ho.2 with ⟨-, hn⟩ | ⟨g', cap, cur, hv, -⟩
    · omega
    · injection hv with h1 _ _; exact ⟨g', h1⟩
  subst hgb
  have hc := fun j (hj : j < 3) => ho.cells (g := gb) rfl (k * 3 + j)
  have hf := fun j (hj : j < 3) => flat_at goalCells 3 (fun _ => rfl) r.goals k j g hk hj
  have hadd : ∀ i, (⟨gb, 0, none⟩ : Addr).add i = ⟨gb, i, none⟩ := fun i => by unfold Addr.add; split <;> simp_all
  refine ⟨gb, rfl, ?_, ?_, ?_⟩
  · have := hc 0 (by decide) (.int .i64 g.1) (by rw [hf 0 (by decide)]; rfl)
    rw [hadd] at this; exact this
  · have := hc 1 (by decide) (.int .i64 g.2.1) (by rw [hf 1 (by decide)]; rfl)
    rw [hadd] at this; exact this
  · have := hc 2 (by decide) (.string ⟨g.2.2.toArray⟩) (by rw [hf 2 (by decide)]; rfl)
    rw [hadd] at this; exact this
theorem set_num : ∀ (l : List Cmd) (i : Nat) (o : Cmd) (n : Int), l[i]? = some o → (l.flatMap Cmd.cells).set (i * 6 + 5) (.int .i64 n) = (l.set i { o with n := n }).flatMap Cmd.cells
  | [], i, o, n, h => by simp at h
  | x :: l, 0, o, n, h => by
    simp only [List.getElem?_cons_zero, Option.some.injEq] at h
    subst h
    rfl
  | x :: l, i + 1, o, n, h => by
    have ih := set_num l i o n (by simpa using h)
    rw [List.flatMap_cons, List.set_cons_succ, List.flatMap_cons, ← ih, List.set_append_right _ _ (by simp [Cmd.cells]; omega)]
    congr 2
    simp [Cmd.cells]; omega
theorem GoSt.store (h : GoSt H RB MB w r Al cl Ag cg ops W) {i p : Nat} (hi : i < r.ops.length) :
    ∃ lb, Al = some ⟨lb, 0, none⟩ ∧ W.frozen? ⟨lb, i * 6 + 5, none⟩ = false ∧ (∃ u : Int, W.cell? ⟨lb, i * 6 + 5, none⟩ = some (.int .i64 u)) ∧
      GoSt H RB MB w r Al cl Ag cg (setN ops i p) (W.setCell ⟨lb, i * 6 + 5, none⟩ (.int .i64 p)) := by
  have ho := h.rd.ops
  dsimp only at ho
  have hlt : i < ops.length := by rw [h.len]; exact hi
  obtain ⟨lb, hlb⟩ : ∃ lb, Al = some ⟨lb, 0, none⟩ := by
    rcases ho.2 with ⟨-, hn⟩ | ⟨g', cap, cur, hv, -⟩
    · omega
    · injection hv with h1 _ _; exact ⟨g', h1⟩
  subst hlb
  obtain ⟨hHl, cs, hcs⟩ := own_kind ho (g := lb) rfl
  have hget : ops[i]? = some ops[i] := List.getElem?_eq_getElem hlt
  have hf := flat_at Cmd.cells 6 (fun _ => rfl) ops i 5 ops[i] hget (by decide)
  have hc := ho.cells (g := lb) rfl (i * 6 + 5) (.int .i64 ops[i].n) (by rw [hf]; rfl)
  have hadd : ∀ i, (⟨lb, 0, none⟩ : Addr).add i = ⟨lb, i, none⟩ := fun i => by unfold Addr.add; split <;> simp_all
  rw [hadd] at hc
  have hset : setN ops i p = ops.set i { ops[i] with n := (p : Int) } := by unfold setN; rw [hget]
  have nRB : RB ≠ lb := fun e => by have h1 := h.rd.blk; rw [e, hcs] at h1; injection h1 with h1; injection h1 with _ h1; exact absurd h1 (by decide)
  have nMB : MB ≠ lb := fun e => by obtain ⟨es, c, hm⟩ := h.rd.map.block; rw [e, hcs] at hm; cases hm
  have ngo : Value.ownBlock (.slice Ag r.goals.length cg) ≠ some lb := fun e => by
    obtain ⟨-, cs2, hcs2⟩ := own_kind h.rd.goals e
    rw [hcs] at hcs2; injection hcs2 with hcs2; injection hcs2 with _ hcs2; exact absurd hcs2 (by decide)
  refine ⟨lb, rfl, frz_of hcs _, ⟨_, hc⟩, ⟨⟨?_, ?_, ?_, ?_⟩, ?_, ?_, h.hs, h.hRB⟩⟩
  · exact blk_set_ne h.rd.blk nRB _ _
  · dsimp only
    rw [setN_len', hset, ← set_num ops i ops[i] p hget]
    have ho2 : W.ownsRow H 79 6 (.slice (some ⟨lb, 0, none⟩) r.ops.length cl) r.ops.length (ops.flatMap Cmd.cells) := by rw [h.len] at ho; exact ho
    have := (ho2.stored (i * 6 + 5) (.int .i64 p)).1
    rw [h.len]; exact this
  · exact own_set_other h.rd.goals (p := ⟨lb, i * 6 + 5, none⟩) ngo _
  · exact h.rd.map.of_block (setCell_heap _ _ _ _ _ nMB)
  · rw [setN_len', h.len]
  · exact h.bel.trans ((Below.refl H W).setCell (p := ⟨lb, i * 6 + 5, none⟩) hHl _)
end
theorem goals_some {labels : List (List UInt8 × Nat)} {ops : List Cmd} {i line p : Nat} {nm : List UInt8} {gs : List (Nat × Nat × List UInt8)} (h : lookV nm labels = some p) : goalsV labels ops ((i, line, nm) :: gs) = goalsV labels (setN ops i p) gs := by
  rw [goalsV, h]
theorem goals_none {labels : List (List UInt8 × Nat)} {ops : List Cmd} {i line : Nat} {nm : List UInt8} {gs : List (Nat × Nat × List UInt8)} (h : lookV nm labels = none) : goalsV labels ops ((i, line, nm) :: gs) = .inr line := by
  rw [goalsV, h]

set_option maxHeartbeats 16000000 in
set_option maxRecDepth 100000 in
theorem aparse_any (L : List UInt8) (hL : L.length ≤ 140737488355328) (w : World) (G : AGlobs w) :
    Calls Tryz.prog 4 #[.string ⟨L.toArray⟩] w fun e w' => ParsedIs (parseA L) w.heap.size e w' ∧ Below w.heap.size w w' := by
  obtain ⟨R, hR⟩ : ∃ R, parseA L = R := ⟨_, rfl⟩
  rw [hR]
  have HRes := Lib.hid hR
  clear hR
  have hsz : (⟨L.toArray⟩ : ByteArray).size = L.length := size_list L
  by_cases hlen : 65536 < L.length
  · have t1 : (65536 : Int) < (L.length : Int) := by omega
    have HF : Hid (Sum.inr (0, 3) = R) := Lib.hid (by rw [← HRes.out]; unfold parseA; rw [if_pos (by omega)])
    obtain rfl := HF.out
    clear HF HRes
    go_enter Tryz.func4, Tryz.ntmps4
    go_wp2_with fail
    refine bodyPost_ret (v := .tuple #[.slice none 0 0, .int .i64 0, .int .i64 3]) (by simp [results, Tryz.results4, go_sem]) rfl ?_
    exact ⟨rfl, Below.refl _ _⟩
  · have t1 : ¬ (65536 : Int) < (L.length : Int) := by omega
    have HL : Hid (L.length ≤ 65536) := Lib.hid (by omega)
    have HRun : Hid (after 0 ⟨[], [], []⟩ (linesV L) = R) := Lib.hid (by rw [← HRes.out]; unfold parseA after; rw [if_neg (by omega)]; cases runV ⟨[], [], []⟩ 0 (linesV L) <;> rfl)
    have HLm : Hid ((∀ x ∈ linesV L, x.length ≤ 65536) ∧ (linesV L).length ≤ 65537) := Lib.hid ⟨fun x hx => by have := linesGo_mem L [] x hx; simp at this; have := HL.out; omega, by have := linesGo_count L []; unfold linesV; omega⟩
    obtain ⟨H, hH⟩ : ∃ H, w.heap.size = H := ⟨_, rfl⟩
    rw [hH]
    have HG : Hid (∀ W, Below H w W → AGlobs W) := Lib.hid (by rw [← hH]; exact fun W hb => G.below hb)
    obtain ⟨w0, hw0⟩ : ∃ w0, w.alloc (.map #[] 0) = w0 := ⟨_, rfl⟩
    obtain ⟨RB, hRB⟩ : ∃ RB, w0.heap.size = RB := ⟨_, rfl⟩
    obtain ⟨w1, hw1⟩ : ∃ w1, w0.alloc (.cells #[.slice none 0 0, .map (some H), .slice none 0 0] 63 (0, 0)) = w1 := ⟨_, rfl⟩
    have hb0 : Below w.heap.size w w0 := by rw [← hw0]; exact (Below.refl _ _).alloc (Nat.le_refl _) _
    have hb1 : Below w0.heap.size w0 w1 := by rw [← hw1]; exact (Below.refl _ _).alloc (Nat.le_refl _) _
    have hRd : Hid (RdIs H RB H ⟨[], [], []⟩ w1) := Lib.hid (by
      refine ⟨.slice none 0 0, .slice none 0 0, ⟨by rw [← hw1, ← hRB]; exact heap_alloc_new w0 _, World.ownsRow_nil _ _ _ _, World.ownsRow_nil _ _ _ _, ?_⟩⟩
      have h0 : StrMap Tryz.prog 9 3 w0 H 0 (fun _ => none) := by rw [← hw0, ← hH]; exact StrMap.made _ _ _ _
      exact (h0.below hb1 h0.lt).congr fun x => rfl)
    have HB1 : Hid (Below H w w1) := Lib.hid (by rw [← hH]; exact hb0.trans (hb1.mono hb0.size))
    have HRBH : Hid (H ≤ RB) := Lib.hid (by rw [← hH, ← hRB]; exact hb0.size)
    have CS := Lib.hid (fun W GW => split_any L HL.out W GW)
    have hRB1 : H + 1 = RB := by rw [← hRB, ← hw0, ← hH]; simp
    obtain ⟨lns, hlns⟩ : ∃ lns, linesV L = lns := ⟨_, rfl⟩
    rw [hlns] at HRun HLm CS
    have hmk := run_makeMap_plain (P := Tryz.prog) w 60
    clear HRes hlen hb0 hb1 G hlns
    obtain ⟨Lb, hLb⟩ : ∃ Lb, w1.heap.size = Lb := ⟨_, rfl⟩
    have HPn : Hid (∀ w2, w2 = w1.alloc (.cells (lns.map fun x => Value.string ⟨x.toArray⟩).toArray 9 (0, 0)) → PaSt H RB H Lb lns w ⟨[], [], []⟩ w2) := Lib.hid fun w2 e => by
      have hb : Below w1.heap.size w1 w2 := by rw [e]; exact (Below.refl _ _).alloc (Nat.le_refl _) _
      exact ⟨hRd.out.below hb, by rw [e, ← hLb]; exact heap_alloc_new w1 _, HB1.out.trans (hb.mono (by have := HB1.out.size; omega)), by omega⟩
    have HW1 : Hid (w1.heap.size = Lb) := Lib.hid hLb
    have HRBl : Hid (RB ≠ H) := Lib.hid (by omega)
    have HRBH0 : Hid (H ≤ H) := Lib.hid (Nat.le_refl H)
    clear hRB1 hLb hRd
    go_enter Tryz.func4, Tryz.ntmps4
    go_wp2_with (go_at_call 10; refine (CS.out _ (HG.out _ HB1.out)).mono ?_; rintro e w2 ⟨rfl, hw2⟩; have HP := Lib.hid (HPn.out _ hw2); clear hw2)
    simp only [HW1.out]
    clear CS HPn hmk hw0 hw1 hRB HW1 HB1
    go_loopw [26] (fun i wr => ∃ (j : Nat) (r : Rd), i = .int .i64 j ∧ j ≤ lns.length ∧ Hid (PaSt H RB H Lb lns w r wr) ∧ Hid (after j r (lns.drop j) = R) ∧ Hid (Few r j) ∧ Hid (GoalsIn r)) (fun i _ => lns.length - (intOf i).toNat)
    case atStart => exact ⟨0, _, rfl, Nat.zero_le _, HP, Lib.hid (by rw [List.drop_zero]; exact HRun.out), Lib.hid ⟨by simp, by simp, by simp, by simp⟩, Lib.hid (fun g hg => by cases hg)⟩
    case round =>
      obtain ⟨i, r, rfl, hi, hP, hRun, hFew, hGI⟩ := hrel
      clear HP HRun
      by_cases hlt : i < lns.length
      · obtain ⟨l, hl⟩ : ∃ l, lns[i]? = some l := ⟨_, List.getElem?_eq_getElem hlt⟩
        have hlm : l ∈ lns := List.mem_of_getElem? hl
        have hdrop : lns.drop i = l :: lns.drop (i + 1) := by
          have := List.drop_eq_getElem_cons hlt
          rw [List.getElem?_eq_getElem hlt] at hl
          injection hl with hl
          rw [this, hl]
        have hll : Hid (l.length ≤ 65536) := Lib.hid (HLm.out.1 l hlm)
        have c1 := hP.out.line hl
        have p1 : (i : Int) < (lns.length : Int) := by omega
        have p2 : (0 : Int) ≤ (i : Int) := Int.natCast_nonneg _
        have CCut := Lib.hid (fun W GW => cut_any l hll.out W GW)
        have CF := Lib.hid (fun W => fields_any (l.takeWhile (· != 35)) (by have := tw_len l; have := hll.out; omega) W)
        have hRun1 := Lib.hid hRun.out
        rw [hdrop, after_cons, wordsV_fields] at hRun1
        have hwl : Hid ((∀ x ∈ fieldsGo [] (l.takeWhile (· != 35)), x.length ≤ 65536) ∧ (fieldsGo [] (l.takeWhile (· != 35))).length ≤ 65536) := Lib.hid ⟨fun x hx => by have := fieldsGo_mem _ [] x hx; have := tw_len l; have := hll.out; simp at *; omega, by have := fieldsGo_count (l.takeWhile (· != 35)) []; have := tw_len l; have := hll.out; simp at *; omega⟩
        obtain ⟨ws, hws⟩ : ∃ ws, fieldsGo [] (l.takeWhile (· != 35)) = ws := ⟨_, rfl⟩
        obtain ⟨lt, hlt2⟩ : ∃ lt, l.takeWhile (· != 35) = lt := ⟨_, rfl⟩
        rw [hws] at CF hRun1 hwl
        rw [hlt2] at CF CCut
        clear hRun hdrop hlm hl hll hws hlt2
        cases ws with
        | nil =>
          have hRun2 : Hid (after (i + 1) r (lns.drop (i + 1)) = R) := Lib.hid hRun1.out
          have hFew2 := Lib.hid hFew.out.more
          have hln := HLm.out.2
          go_wp2_with (go_at_call 11; refine (CCut.out _ (HG.out _ hP.out.bel)).mono ?_; rintro e w2 ⟨⟨xx, bb, rfl⟩, nn, rfl⟩)
          go_at_call 12
          refine (CF.out _).mono ?_
          rintro e w3 ⟨Aw, rfl, hOw, hb3⟩
          have HP3 := Lib.hid (hP.out.below ((below_drewN wr.heap.size wr nn).trans hb3))
          skip
          clear hOw hb3
          go_wp2_with fail
          go_roundw
          case rel => exact ⟨i + 1, r, by go_num, by omega, HP3, hRun2, hFew2, hGI⟩
          case measure => simp [intOf]; omega
        | cons w0 rest =>
          have t2 : (((rest.length : Int) + 1) == 0) = false := by simp only [beq_eq_false_iff_ne]; omega
          have p3 : (0 : Int) < (rest.length : Int) + 1 := by omega
          have hRun2 : Hid ((match lineV r i (w0 :: rest) with | .inl r' => after (i + 1) r' (lns.drop (i + 1)) | .inr e => .inr (i, e)) = R) := Lib.hid hRun1.out
          have CSf := Lib.hid (fun W => cutsuf_any w0 (hwl.out.1 w0 List.mem_cons_self) W)
          have CI := Lib.hid (fun (W : World) (A : Nat) (hp : PaSt H RB H Lb lns w r W) (ho : W.ownsRow H 9 1 (.slice (some ⟨A, 0, none⟩) (rest.length + 1) (rest.length + 1)) (rest.length + 1) ((w0 :: rest).map fun l => Value.string ⟨l.toArray⟩)) =>
            ins_any H RB H r w0 rest (some ⟨A, 0, none⟩) (rest.length + 1) i W (fun W' hb => HG.out W' (hp.bel.trans hb)) hp.rd HRBH.out ho hwl.out.1 (by have := hwl.out.2; simp at this; omega) (by have := hFew.out.ops; have := HLm.out.2; omega) (by have := hFew.out.goals; have := HLm.out.2; omega) (by have := HLm.out.2; omega))
          clear hRun1
          by_cases hs : w0.getLast? = some 58
          · rw [if_pos hs, decide_eq_true hs] at CSf
            by_cases hre : rest = []
            · subst hre
              have hlv : Hid (lineV r i [w0] = (if labelB w0.dropLast then (match lookV w0.dropLast r.labels with | some _ => .inr 8 | none => .inl { r with labels := r.labels ++ [(w0.dropLast, r.ops.length)] }) else .inr 13)) := Lib.hid (by unfold lineV; dsimp only; rw [if_pos ⟨rfl, hs⟩]; rfl)
              obtain ⟨nm, hnm⟩ : ∃ nm, w0.dropLast = nm := ⟨_, rfl⟩
              rw [hnm] at hlv CSf
              have hnl : Hid (nm.length ≤ 65536) := Lib.hid (by rw [← hnm, List.length_dropLast]; have := hwl.out.1 w0 List.mem_cons_self; omega)
              have CLb := Lib.hid (fun W => label_any nm (by have := hnl.out; omega) W)
              clear CI hnm hs t2 p3
              have p3 : (0 : Int) < 1 := by decide
              cases hlb : labelB nm with
              | false =>
                have HF : Hid (Sum.inr (i, 13) = R) := Lib.hid (by rw [← hRun2.out, hlv.out, hlb]; rfl)
                clear hRun2
                obtain rfl := HF.out
                clear HF
                rw [hlb] at CLb
                have hln := HLm.out.2
                go_wp2_with (go_at_call 11; refine (CCut.out _ (HG.out _ hP.out.bel)).mono ?_; rintro e w2 ⟨⟨xx, bb, rfl⟩, nn, rfl⟩)
                go_at_call 12
                refine (CF.out _).mono ?_
                rintro e w3 ⟨Aw, rfl, hOw, hb3⟩
                have HP3 := Lib.hid (hP.out.below ((below_drewN wr.heap.size wr nn).trans hb3))
                have c3 := words_at hOw 0 w0 rfl
                clear hOw hb3
                go_wp2_with (first | (go_at_call 14; refine (CSf.out _).mono ?_; rintro e w4 ⟨rfl, rfl⟩) | (go_at_call 16; refine (CLb.out _).mono ?_; rintro e w5 ⟨rfl, hb5⟩))
                refine bodyPost_ret (v := .tuple #[.slice none 0 0, .int .i64 i, .int .i64 13]) (by simp [results, Tryz.results4, go_sem]) rfl ?_
                exact ⟨rfl, HP3.out.bel.trans (hb5.mono (Nat.le_trans HP3.out.hs HP3.out.bel.size))⟩
              | true =>
                rw [hlb] at CLb
                have hlv2 : Hid (lineV r i [w0] = (match lookV nm r.labels with | some _ => .inr 8 | none => .inl { r with labels := r.labels ++ [(nm, r.ops.length)] })) := Lib.hid (by rw [hlv.out, hlb]; rfl)
                have hze := fun W => (show (zeroValue 3).run Tryz.prog W = .ok (.int .i64 0) W by kernel_rfl)
                cases hlk : lookV nm r.labels with
                | some p0 =>
                  have HF : Hid (Sum.inr (i, 8) = R) := Lib.hid (by rw [← hRun2.out, hlv2.out, hlk])
                  clear hRun2 hlv hlv2
                  obtain rfl := HF.out
                  clear HF
                  have hln := HLm.out.2
                  go_wp2_with (go_at_call 11; refine (CCut.out _ (HG.out _ hP.out.bel)).mono ?_; rintro e w2 ⟨⟨xx, bb, rfl⟩, nn, rfl⟩)
                  go_at_call 12
                  refine (CF.out _).mono ?_
                  rintro e w3 ⟨Aw, rfl, hOw, hb3⟩
                  have HP3 := Lib.hid (hP.out.below ((below_drewN wr.heap.size wr nn).trans hb3))
                  have c3 := words_at hOw 0 w0 rfl
                  clear hOw hb3
                  go_wp2_with (first | (go_at_call 14; refine (CSf.out _).mono ?_; rintro e w4 ⟨rfl, rfl⟩) | (go_at_call 16; refine (CLb.out _).mono ?_; rintro e w5 ⟨rfl, hb5⟩; have HP5 := Lib.hid (HP3.out.below hb5); obtain ⟨vl, vg, hrd⟩ := HP5.out.rd; have r1 := cell_of hrd.blk 1; have hkk := hrd.map.look Tryz.underlying60 Tryz.underlying9 Tryz.underlying3 (hze _) (x := nm) (by unfold maxLen; have := hnl.out; omega); rw [hlk] at hkk; simp only [List.getElem?_toArray, List.getElem?_cons_zero, List.getElem?_cons_succ, Option.map_some, Option.getD_some, Option.isSome_some] at r1 hkk))
                  refine bodyPost_ret (v := .tuple #[.slice none 0 0, .int .i64 i, .int .i64 8]) (by simp [results, Tryz.results4, go_sem]) rfl ?_
                  exact ⟨rfl, HP5.out.bel⟩
                | none =>
                  have hRun3 : Hid (after (i + 1) { r with labels := r.labels ++ [(nm, r.ops.length)] } (lns.drop (i + 1)) = R) := Lib.hid (by rw [← hRun2.out, hlv2.out, hlk])
                  have hFew2 := Lib.hid (hFew.out.label nm)
                  clear hRun2 hlv hlv2
                  have hln := HLm.out.2
                  go_wp2_with (go_at_call 11; refine (CCut.out _ (HG.out _ hP.out.bel)).mono ?_; rintro e w2 ⟨⟨xx, bb, rfl⟩, nn, rfl⟩)
                  go_at_call 12
                  refine (CF.out _).mono ?_
                  rintro e w3 ⟨Aw, rfl, hOw, hb3⟩
                  have HP3 := Lib.hid (hP.out.below ((below_drewN wr.heap.size wr nn).trans hb3))
                  have c3 := words_at hOw 0 w0 rfl
                  clear hOw hb3
                  go_wp2_with (first | (go_at_call 14; refine (CSf.out _).mono ?_; rintro e w4 ⟨rfl, rfl⟩) | (go_at_call 16; refine (CLb.out _).mono ?_; rintro e w5 ⟨rfl, hb5⟩; have HP5 := Lib.hid (HP3.out.below hb5); obtain ⟨vl, vg, hrd⟩ := HP5.out.rd; have r1 := cell_of hrd.blk 1; have HRD := Lib.hid hrd; have hkk := hrd.map.look Tryz.underlying60 Tryz.underlying9 Tryz.underlying3 (hze _) (x := nm) (by unfold maxLen; have := hnl.out; omega); rw [hlk] at hkk; simp only [List.getElem?_toArray, List.getElem?_cons_zero, List.getElem?_cons_succ, Option.map_none, Option.getD_none, Option.isSome_none] at r1 hkk; clear hrd))
                  have HP5d := Lib.hid (HP5.out.below (Below.refl _ _).drew)
                  obtain ⟨Al, cl, rfl⟩ := own_slice HRD.out.ops
                  have HSc : Hid (w5.drew.cell? ⟨RB, 1, none⟩ = some (.map (some H)) ∧ w5.drew.cell? ⟨RB, 0, none⟩ = some (.slice Al r.ops.length cl)) := Lib.hid ⟨cell_of (HRD.out.below (Below.refl _ _).drew).blk 1, cell_of (HRD.out.below (Below.refl _ _).drew).blk 0⟩
                  have HPut := Lib.hid ((HRD.out.below (Below.refl _ _).drew).map.put Tryz.underlying60 Tryz.underlying9 Tryz.underlying3 (by have := hFew.out.labels; have := HLm.out.2; unfold maxLen; omega) (x := nm) (v := (r.ops.length : Int)) (by unfold maxLen; have := hnl.out; omega) (WalkArith.wf_i64 ⟨by omega, by have := hFew.out.ops; have := HLm.out.2; omega⟩))
                  have HFin := Lib.hid (fun (w7 : World) hs hg => HP5d.out.labelled hlk HRBH0.out HRBl.out (W' := w7) hs hg)
                  clear hkk r1 hb5 HP3 HP5 HRD hP CLb CSf c1 c3
                  refine wp_region_L (l := 10) (S := (fun W => W.cell? ⟨RB, 1, none⟩ = some (.map (some H)) ∧ W.cell? ⟨RB, 0, none⟩ = some (.slice Al r.ops.length cl))) (by kernel_rfl) ?_ (fun hHeld => ?_)
                  · ((try dsimp only); (exact HSc.out))
                  refine wpAnyL_take (i := 0) (oi := _) (v := ?v1) rfl (by kernel_rfl) (fun _ _ _ h => h) (by assumption) (Or.inl ⟨by kernel_rfl, ?y1⟩) ?r1
                  case y1 => (intro w hSw; (try dsimp only at hSw); go_simp; all_goals with_reducible rfl)
                  try simp only [List.getElem_toArray, List.getElem_cons_zero, List.getElem_cons_succ, Act.put, List.setIfInBounds_toArray, List.set_cons_zero, List.set_cons_succ]
                  refine wpAnyL_take (i := 1) (oi := _) (v := ?v2) rfl (by kernel_rfl) (fun _ _ _ h => h) (by assumption) (Or.inl ⟨by kernel_rfl, ?y2⟩) ?r2
                  case y2 => (intro w hSw; (try dsimp only at hSw); go_simp; all_goals with_reducible rfl)
                  try simp only [List.getElem_toArray, List.getElem_cons_zero, List.getElem_cons_succ, Act.put, List.setIfInBounds_toArray, List.set_cons_zero, List.set_cons_succ]
                  refine wpAnyL_take (i := 2) (oi := _) (v := ?v3) rfl (by kernel_rfl) (fun _ _ _ h => h) (by assumption) (Or.inl ⟨by kernel_rfl, ?y3⟩) ?r3
                  case y3 => (intro w hSw; (try dsimp only at hSw); go_simp; all_goals with_reducible rfl)
                  try simp only [List.getElem_toArray, List.getElem_cons_zero, List.getElem_cons_succ, Act.put, List.setIfInBounds_toArray, List.set_cons_zero, List.set_cons_succ]
                  refine wpAnyL_take (i := 3) (oi := _) (v := ?v4) rfl (by kernel_rfl) (fun _ _ _ h => h) (by assumption) (Or.inl ⟨by kernel_rfl, ?y4⟩) ?r4
                  case y4 => (intro w hSw; (try dsimp only at hSw); go_simp; all_goals with_reducible rfl)
                  try simp only [List.getElem_toArray, List.getElem_cons_zero, List.getElem_cons_succ, Act.put, List.setIfInBounds_toArray, List.set_cons_zero, List.set_cons_succ]
                  refine wpAnyL_take (i := 4) (oi := _) (v := ?v5) rfl (by kernel_rfl) (fun _ _ _ h => h) (by assumption) (Or.inl ⟨by kernel_rfl, ?y5⟩) ?r5
                  case y5 => (intro w hSw; (try dsimp only at hSw); go_simp; all_goals with_reducible rfl)
                  try simp only [List.getElem_toArray, List.getElem_cons_zero, List.getElem_cons_succ, Act.put, List.setIfInBounds_toArray, List.set_cons_zero, List.set_cons_succ]
                  refine wpAnyL_take (i := 5) (oi := _) (v := ?v6) rfl (by kernel_rfl) (fun _ _ _ h => h) (by assumption) (Or.inl ⟨by kernel_rfl, ?y6⟩) ?r6
                  case y6 => (intro w hSw; (try dsimp only at hSw); go_simp; all_goals with_reducible rfl)
                  try simp only [List.getElem_toArray, List.getElem_cons_zero, List.getElem_cons_succ, Act.put, List.setIfInBounds_toArray, List.set_cons_zero, List.set_cons_succ]
                  refine wpAnyL_take (i := 6) (oi := _) (v := ?v7) rfl (by kernel_rfl) (fun _ _ _ h => h) (by assumption) (Or.inl ⟨by kernel_rfl, ?y7⟩) ?r7
                  case y7 => (intro w hSw; (try dsimp only at hSw); go_simp; all_goals with_reducible rfl)
                  try simp only [List.getElem_toArray, List.getElem_cons_zero, List.getElem_cons_succ, Act.put, List.setIfInBounds_toArray, List.set_cons_zero, List.set_cons_succ]
                  refine wpAnyL_take (i := 7) (oi := _) (v := ?v8) rfl (by kernel_rfl) (fun _ _ _ h => h) (by assumption) (Or.inl ⟨by kernel_rfl, ?y8⟩) ?r8
                  case y8 => (intro w hSw; (try dsimp only at hSw); go_simp; all_goals with_reducible rfl)
                  try simp only [List.getElem_toArray, List.getElem_cons_zero, List.getElem_cons_succ, Act.put, List.setIfInBounds_toArray, List.set_cons_zero, List.set_cons_succ]
                  refine wpAnyL_take (i := 8) (oi := _) (v := ?v9) rfl (by kernel_rfl) (fun _ _ _ h => h) (by assumption) (Or.inl ⟨by kernel_rfl, ?y9⟩) ?r9
                  case y9 => (intro w hSw; (try dsimp only at hSw); go_simp; all_goals with_reducible rfl)
                  try simp only [List.getElem_toArray, List.getElem_cons_zero, List.getElem_cons_succ, Act.put, List.setIfInBounds_toArray, List.set_cons_zero, List.set_cons_succ]
                  refine wpAnyL_take (i := 9) (oi := _) (v := ?v10) rfl (by kernel_rfl) (fun _ _ _ h => h) (by assumption) (Or.inl ⟨by kernel_rfl, ?y10⟩) ?r10
                  case y10 => (intro w hSw; (try dsimp only at hSw); go_simp; all_goals with_reducible rfl)
                  try simp only [List.getElem_toArray, List.getElem_cons_zero, List.getElem_cons_succ, Act.put, List.setIfInBounds_toArray, List.set_cons_zero, List.set_cons_succ]
                  refine wpAnyL_last (j := 10) (o := _) (by kernel_rfl) rfl (by rfl) (by kernel_rfl) (fun K hK => ?_)
                  (obtain ⟨w7, hput, hsm, hgr⟩ := HPut.out; go_simp; have HP7 := Lib.hid (HFin.out _ hsm hgr); clear hput hsm hgr)
                  (refine hK _ _ ?_; clear hK K)
                  try simp only [List.getElem_toArray, List.getElem_cons_zero, List.getElem_cons_succ, Act.put, List.setIfInBounds_toArray, List.set_cons_zero, List.set_cons_succ]
                  clear HPut HFin HSc hHeld
                  go_wp2_with fail
                  go_roundw
                  case rel => exact ⟨i + 1, _, by go_num, by omega, HP7, hRun3, hFew2, hGI⟩
                  case measure => simp [intOf]; omega
            · have hlv : Hid (lineV r i (w0 :: rest) = (match insV r w0 rest i with | some r' => .inl r' | none => .inr 13)) := Lib.hid (by unfold lineV; dsimp only; rw [if_neg (fun h => hre h.1)]; rfl)
              have p5 : (1 : Int) < (rest.length : Int) + 1 := by have := List.length_pos_iff.2 hre; omega
              clear hs hre
              have hln := HLm.out.2
              go_wp2_with (go_at_call 11; refine (CCut.out _ (HG.out _ hP.out.bel)).mono ?_; rintro e w2 ⟨⟨xx, bb, rfl⟩, nn, rfl⟩)
              go_at_call 12
              refine (CF.out _).mono ?_
              rintro e w3 ⟨Aw, rfl, hOw, hb3⟩
              have HP3 := Lib.hid (hP.out.below ((below_drewN wr.heap.size wr nn).trans hb3))
              have HOw : Hid (w3.ownsRow H 9 1 (.slice (some ⟨Aw, 0, none⟩) (rest.length + 1) (rest.length + 1)) (rest.length + 1) ((w0 :: rest).map fun l => Value.string ⟨l.toArray⟩)) := Lib.hid (own_mono hOw (Nat.le_trans hP.out.hs hP.out.bel.size)); have c3 := words_at hOw 0 w0 rfl
              clear hOw hb3
              cases hins : insV r w0 rest i with
              | none =>
                have HF : Hid (Sum.inr (i, 13) = R) := Lib.hid (by rw [← hRun2.out, hlv.out, hins])
                clear hRun2
                obtain rfl := HF.out
                clear HF
                go_wp2_with (first | (go_at_call 14; refine (CSf.out _).mono ?_; rintro e w4 ⟨rfl, rfl⟩) | (go_at_call 15; refine (CI.out _ _ HP3.out HOw.out).mono ?_; rw [hins]; rintro e w5 ⟨rfl, hfr⟩))
                refine bodyPost_ret (v := .tuple #[.slice none 0 0, .int .i64 i, .int .i64 13]) (by simp [results, Tryz.results4, go_sem]) rfl ?_
                exact ⟨rfl, HP3.out.bel.trans (hfr.below (Nat.le_trans HP3.out.hs HP3.out.bel.size))⟩
              | some r2 =>
                have hRun3 : Hid (after (i + 1) r2 (lns.drop (i + 1)) = R) := Lib.hid (by rw [← hRun2.out, hlv.out, hins])
                have hFew2 := Lib.hid (hFew.out.ins hins)
                have hGI2 := Lib.hid (hGI.out.ins (by have := HLm.out.2; omega) hwl.out.1 hins)
                clear hRun2
                go_wp2_with (first | (go_at_call 14; refine (CSf.out _).mono ?_; rintro e w4 ⟨rfl, rfl⟩) | (go_at_call 15; refine (CI.out _ _ HP3.out HOw.out).mono ?_; rw [hins]; rintro e w5 ⟨⟨rfl, hrd⟩, hfr⟩; have HP5 := Lib.hid (HP3.out.turned hrd hfr); clear hrd hfr))
                go_roundw
                case rel => exact ⟨i + 1, r2, by go_num, by omega, HP5, hRun3, hFew2, hGI2⟩
                case measure => simp [intOf]; omega
          · rw [if_neg hs, decide_eq_false hs] at CSf
            have hlv : Hid (lineV r i (w0 :: rest) = (match insV r w0 rest i with | some r' => .inl r' | none => .inr 13)) := Lib.hid (by unfold lineV; dsimp only; rw [if_neg (fun h => hs h.2)]; rfl)
            clear hs
            have hln := HLm.out.2
            go_wp2_with (go_at_call 11; refine (CCut.out _ (HG.out _ hP.out.bel)).mono ?_; rintro e w2 ⟨⟨xx, bb, rfl⟩, nn, rfl⟩)
            go_at_call 12
            refine (CF.out _).mono ?_
            rintro e w3 ⟨Aw, rfl, hOw, hb3⟩
            have HP3 := Lib.hid (hP.out.below ((below_drewN wr.heap.size wr nn).trans hb3))
            have HOw : Hid (w3.ownsRow H 9 1 (.slice (some ⟨Aw, 0, none⟩) (rest.length + 1) (rest.length + 1)) (rest.length + 1) ((w0 :: rest).map fun l => Value.string ⟨l.toArray⟩)) := Lib.hid (own_mono hOw (Nat.le_trans hP.out.hs hP.out.bel.size)); have c3 := words_at hOw 0 w0 rfl
            clear hOw hb3
            cases hins : insV r w0 rest i with
            | none =>
              have HF : Hid (Sum.inr (i, 13) = R) := Lib.hid (by rw [← hRun2.out, hlv.out, hins])
              clear hRun2
              obtain rfl := HF.out
              clear HF
              go_wp2_with (first | (go_at_call 14; refine (CSf.out _).mono ?_; rintro e w4 ⟨rfl, rfl⟩) | (go_at_call 15; refine (CI.out _ _ HP3.out HOw.out).mono ?_; rw [hins]; rintro e w5 ⟨rfl, hfr⟩))
              refine bodyPost_ret (v := .tuple #[.slice none 0 0, .int .i64 i, .int .i64 13]) (by simp [results, Tryz.results4, go_sem]) rfl ?_
              exact ⟨rfl, HP3.out.bel.trans (hfr.below (Nat.le_trans HP3.out.hs HP3.out.bel.size))⟩
            | some r2 =>
              have hRun3 : Hid (after (i + 1) r2 (lns.drop (i + 1)) = R) := Lib.hid (by rw [← hRun2.out, hlv.out, hins])
              have hFew2 := Lib.hid (hFew.out.ins hins)
              have hGI2 := Lib.hid (hGI.out.ins (by have := HLm.out.2; omega) hwl.out.1 hins)
              clear hRun2
              go_wp2_with (first | (go_at_call 14; refine (CSf.out _).mono ?_; rintro e w4 ⟨rfl, rfl⟩) | (go_at_call 15; refine (CI.out _ _ HP3.out HOw.out).mono ?_; rw [hins]; rintro e w5 ⟨⟨rfl, hrd⟩, hfr⟩; have HP5 := Lib.hid (HP3.out.turned hrd hfr); clear hrd hfr))
              go_roundw
              case rel => exact ⟨i + 1, r2, by go_num, by omega, HP5, hRun3, hFew2, hGI2⟩
              case measure => simp [intOf]; omega
      · obtain rfl : i = lns.length := by omega
        have hRun1 : Hid ((match goalsV r.labels r.ops r.goals with | .inl l => .inl l | .inr line => .inr (line, 9)) = R) := Lib.hid (by have h := hRun.out; rw [List.drop_length, after_nil] at h; exact h)
        obtain ⟨vl, vg, hrd⟩ := hP.out.rd
        obtain ⟨Al, cl, rfl⟩ := own_slice hrd.ops
        obtain ⟨Ag, cg, rfl⟩ := own_slice hrd.goals
        have r2 := cell_of hrd.blk 2
        simp only [List.getElem?_toArray, List.getElem?_cons_zero, List.getElem?_cons_succ] at r2
        have HS0 : Hid (GoSt H RB H w r Al cl Ag cg r.ops wr) := Lib.hid ⟨hrd, rfl, hP.out.bel, hP.out.hs, HRBH.out⟩
        have hgn : Hid (r.goals.length ≤ 65537) := Lib.hid (by have := hFew.out.goals; have := HLm.out.2; omega)
        clear hrd hRun hlt
        go_wp2_with fail
        clear r2 hP
        go_loopw [93] (fun i wr => ∃ (k : Nat) (ops : List Cmd), i = .int .i64 k ∧ k ≤ r.goals.length ∧ Hid (GoSt H RB H w r Al cl Ag cg ops wr) ∧ Hid ((match goalsV r.labels ops (r.goals.drop k) with | .inl l => .inl l | .inr line => .inr (line, 9)) = R)) (fun i _ => r.goals.length - (intOf i).toNat)
        case atStart => exact ⟨0, _, rfl, Nat.zero_le _, HS0, Lib.hid (by rw [List.drop_zero]; exact hRun1.out)⟩
        case round =>
          obtain ⟨k, ops, rfl, hk, hS, hR⟩ := hrel
          clear HS0 hRun1
          by_cases hklt : k < r.goals.length
          · obtain ⟨g, hg⟩ : ∃ g, r.goals[k]? = some g := ⟨_, List.getElem?_eq_getElem hklt⟩
            have hdrop : r.goals.drop k = g :: r.goals.drop (k + 1) := by
              have := List.drop_eq_getElem_cons hklt
              rw [List.getElem?_eq_getElem hklt] at hg
              injection hg with hg
              rw [this, hg]
            have hgm := hGI.out g (List.mem_of_getElem? hg)
            obtain ⟨gi, gl, gw⟩ := g
            obtain ⟨gb, hAg, g0, g1, g2⟩ := hS.out.goal hg
            subst hAg
            have p1 : (k : Int) < (r.goals.length : Int) := by omega
            have p2 : (0 : Int) ≤ (k : Int) := Int.natCast_nonneg _
            obtain ⟨Xg, hXg⟩ : ∃ Xg, wr.heap.size = Xg := ⟨_, rfl⟩
            obtain ⟨w4, hw4⟩ : ∃ w4, wr.alloc (.cells #[.int .i64 gi, .int .i64 gl, .string ⟨gw.toArray⟩] 75 (0, 0)) = w4 := ⟨_, rfl⟩
            have hb4 : Below wr.heap.size wr w4 := by rw [← hw4]; exact (Below.refl _ _).alloc (Nat.le_refl _) _
            have x4 : w4.heap[Xg]? = some (.cells #[.int .i64 gi, .int .i64 gl, .string ⟨gw.toArray⟩] 75 (0, 0)) := by rw [← hw4, ← hXg]; exact heap_alloc_new wr _
            have HS4 := Lib.hid (hS.out.below hb4)
            have HX4 := Lib.hid x4
            dsimp only at hgm g0 g1 g2
            have HGw : Hid (gw.length ≤ 65536) := Lib.hid hgm.2.2
            have hR1 := Lib.hid hR.out
            rw [hdrop] at hR1
            have HLk := Lib.hid (fun W (hb : Below w4.heap.size w4 W) => (HS4.out.below hb).rd.map.look Tryz.underlying60 Tryz.underlying9 Tryz.underlying3 (show (zeroValue 3).run Tryz.prog W = .ok (.int .i64 0) W by kernel_rfl) (x := gw) (by unfold maxLen; have := HGw.out; omega))
            obtain ⟨lk, hlk⟩ : ∃ lk, lookV gw r.labels = lk := ⟨_, rfl⟩
            obtain ⟨lv, hlv⟩ : ∃ lv, ((lk.map Int.ofNat).getD 0) = lv := ⟨_, rfl⟩
            obtain ⟨lb, hlb⟩ : ∃ lb, (lk.map Int.ofNat).isSome = lb := ⟨_, rfl⟩
            dsimp only at HLk
            rw [hlk, hlv, hlb] at HLk
            have HSG : Hid (∀ W, Below w4.heap.size w4 W → LkS RB H Xg gw lv lb W) := Lib.hid fun W hb => ⟨cell_of (HS4.out.below hb).rd.blk 1, cell_of (blk_below HX4.out hb) 2, HLk.out W hb⟩
            clear hb4 x4 hS hR hdrop hg
            go_wp2_with fail
            clear g0 g1 g2 hw4
            refine wp_region_L (l := 11) (S := (LkS RB H Xg gw lv lb)) (by kernel_rfl) ?_ (fun hHeld => ?_)
            · ((try dsimp only); (exact HSG.out _ (Below.refl _ _).drew))
            refine wpAnyL_take (i := 0) (oi := _) (v := ?v12) rfl (by kernel_rfl) (fun _ _ _ h => h) (by assumption) (Or.inl ⟨by kernel_rfl, ?y12⟩) ?r12
            case y12 => (intro w hSw; (try dsimp only at hSw); go_simp; all_goals with_reducible rfl)
            try simp only [List.getElem_toArray, List.getElem_cons_zero, List.getElem_cons_succ, Act.put, List.setIfInBounds_toArray, List.set_cons_zero, List.set_cons_succ]
            refine wpAnyL_take (i := 1) (oi := _) (v := ?v13) rfl (by kernel_rfl) (fun _ _ _ h => h) (by assumption) (Or.inl ⟨by kernel_rfl, ?y13⟩) ?r13
            case y13 => (intro w hSw; (try dsimp only at hSw); go_simp; all_goals with_reducible rfl)
            try simp only [List.getElem_toArray, List.getElem_cons_zero, List.getElem_cons_succ, Act.put, List.setIfInBounds_toArray, List.set_cons_zero, List.set_cons_succ]
            refine wpAnyL_take (i := 2) (oi := _) (v := ?v14) rfl (by kernel_rfl) (fun _ _ _ h => h) (by assumption) (Or.inl ⟨by kernel_rfl, ?y14⟩) ?r14
            case y14 => (intro w hSw; (try dsimp only at hSw); go_simp; all_goals with_reducible rfl)
            try simp only [List.getElem_toArray, List.getElem_cons_zero, List.getElem_cons_succ, Act.put, List.setIfInBounds_toArray, List.set_cons_zero, List.set_cons_succ]
            refine wpAnyL_take (i := 3) (oi := _) (v := ?v15) rfl (by kernel_rfl) (fun _ _ _ h => h) (by assumption) (Or.inl ⟨by kernel_rfl, ?y15⟩) ?r15
            case y15 => (intro w hSw; (try dsimp only at hSw); go_simp; all_goals with_reducible rfl)
            try simp only [List.getElem_toArray, List.getElem_cons_zero, List.getElem_cons_succ, Act.put, List.setIfInBounds_toArray, List.set_cons_zero, List.set_cons_succ]
            refine wpAnyL_take (i := 4) (oi := _) (v := ?v16) rfl (by kernel_rfl) (fun _ _ _ h => h) (by assumption) (Or.inl ⟨by kernel_rfl, ?y16⟩) ?r16
            case y16 => (intro w hSw; (try dsimp only at hSw); go_simp; all_goals with_reducible rfl)
            try simp only [List.getElem_toArray, List.getElem_cons_zero, List.getElem_cons_succ, Act.put, List.setIfInBounds_toArray, List.set_cons_zero, List.set_cons_succ]
            refine wpAnyL_take (i := 5) (oi := _) (v := ?v17) rfl (by kernel_rfl) (fun _ _ _ h => h) (by assumption) (Or.inl ⟨by kernel_rfl, ?y17⟩) ?r17
            case y17 => (intro w hSw; (try dsimp only at hSw); go_simp; all_goals with_reducible rfl)
            try simp only [List.getElem_toArray, List.getElem_cons_zero, List.getElem_cons_succ, Act.put, List.setIfInBounds_toArray, List.set_cons_zero, List.set_cons_succ]
            refine wpAnyL_take (i := 6) (oi := _) (v := ?v18) rfl (by kernel_rfl) (fun _ _ _ h => h) (by assumption) (Or.inl ⟨by kernel_rfl, ?y18⟩) ?r18
            case y18 => (intro w hSw; (try dsimp only at hSw); go_simp; all_goals with_reducible rfl)
            try simp only [List.getElem_toArray, List.getElem_cons_zero, List.getElem_cons_succ, Act.put, List.setIfInBounds_toArray, List.set_cons_zero, List.set_cons_succ]
            refine wpAnyL_take (i := 7) (oi := _) (v := ?v19) rfl (by kernel_rfl) (fun _ _ _ h => h) (by assumption) (Or.inl ⟨by kernel_rfl, ?y19⟩) ?r19
            case y19 => (intro w hSw; (try dsimp only at hSw); go_simp; all_goals with_reducible rfl)
            try simp only [List.getElem_toArray, List.getElem_cons_zero, List.getElem_cons_succ, Act.put, List.setIfInBounds_toArray, List.set_cons_zero, List.set_cons_succ]
            refine wpAnyL_take (i := 8) (oi := _) (v := ?v20) rfl (by kernel_rfl) (fun _ _ _ h => h) (by assumption) (Or.inl ⟨by kernel_rfl, ?y20⟩) ?r20
            case y20 => (intro w hSw; (try dsimp only at hSw); go_simp; all_goals with_reducible rfl)
            try simp only [List.getElem_toArray, List.getElem_cons_zero, List.getElem_cons_succ, Act.put, List.setIfInBounds_toArray, List.set_cons_zero, List.set_cons_succ]
            refine wpAnyL_take (i := 9) (oi := _) (v := ?v21) rfl (by kernel_rfl) (fun _ _ _ h => h) (by assumption) (Or.inl ⟨by kernel_rfl, ?y21⟩) ?r21
            case y21 => (intro w hSw; (try dsimp only at hSw); go_simp; all_goals with_reducible rfl)
            try simp only [List.getElem_toArray, List.getElem_cons_zero, List.getElem_cons_succ, Act.put, List.setIfInBounds_toArray, List.set_cons_zero, List.set_cons_succ]
            refine wpAnyL_take (i := 10) (oi := _) (v := ?v22) rfl (by kernel_rfl) (fun _ _ _ h => h) (by assumption) (Or.inl ⟨by kernel_rfl, ?y22⟩) ?r22
            case y22 => (intro w hSw; (try dsimp only at hSw); go_simp; all_goals with_reducible rfl)
            try simp only [List.getElem_toArray, List.getElem_cons_zero, List.getElem_cons_succ, Act.put, List.setIfInBounds_toArray, List.set_cons_zero, List.set_cons_succ]
            refine wpAnyL_last (j := 11) (o := _) (by kernel_rfl) rfl (by rfl) (by kernel_rfl) (fun K hK => ?_)
            go_simp
            (refine hK _ _ ?_; clear hK K)
            try simp only [List.getElem_toArray, List.getElem_cons_zero, List.getElem_cons_succ, Act.put, List.setIfInBounds_toArray, List.set_cons_zero, List.set_cons_succ]
            clear hHeld HSG HLk
            have HS5 := Lib.hid (HS4.out.below (Below.refl _ _).drew)
            have HX5 := Lib.hid (blk_below HX4.out (Below.refl _ _).drew)
            obtain ⟨w5, hw5⟩ : ∃ w5, w4.drew = w5 := ⟨_, rfl⟩
            rw [hw5] at HS5 HX5
            rw [hw5]
            clear HS4 HX4 hw5
            cases lk with
            | none =>
              obtain rfl := hlv
              obtain rfl := hlb
              have HF : Hid (Sum.inr (gl, 9) = R) := Lib.hid (by have h := hR1.out; rw [goals_none hlk] at h; exact h)
              clear hR1
              obtain rfl := HF.out
              clear HF
              have x1 := cell_of HX5.out 1
              simp only [List.getElem?_toArray, List.getElem?_cons_zero, List.getElem?_cons_succ] at x1
              go_wp2_with fail
              go_quiet (fail)
              go_wp2_with fail
              refine bodyPost_ret (v := .tuple #[.slice none 0 0, .int .i64 gl, .int .i64 9]) (by simp [results, Tryz.results4, go_sem]) rfl ?_
              exact ⟨rfl, HS5.out.bel.trans (below_drewN _ _ _)⟩
            | some p0 =>
              have hlv : lv = (p0 : Int) := hlv.symm
              subst hlv
              obtain rfl := hlb
              have hR2 : Hid ((match goalsV r.labels (setN ops gi p0) (r.goals.drop (k + 1)) with | .inl l => .inl l | .inr line => .inr (line, 9)) = R) := Lib.hid (by have h := hR1.out; rw [goals_some hlk] at h; exact h)
              clear hR1
              have HS5d := Lib.hid (HS5.out.below (Below.refl _ _).drew)
              have hgm1 := hgm.1
              obtain ⟨ob, hob, f5, ⟨u5, c5⟩, hS6⟩ := HS5d.out.store (p := p0) hgm1
              subst hob
              have HF9 : Hid (w5.drew.frozen? ⟨ob, gi * 6 + 5, none⟩ = false ∧ w5.drew.cell? ⟨ob, gi * 6 + 5, none⟩ = some (.int .i64 u5)) := Lib.hid ⟨f5, c5⟩
              have HS6 := Lib.hid hS6
              have HSS : Hid (w5.drew.cell? ⟨RB, 0, none⟩ = some (.slice (some ⟨ob, 0, none⟩) r.ops.length cl) ∧ w5.drew.cell? ⟨Xg, 0, none⟩ = some (.int .i64 gi)) := Lib.hid ⟨cell_of HS5d.out.rd.blk 0, cell_of (blk_below HX5.out (Below.refl _ _).drew) 0⟩
              have p6 : (gi : Int) < (r.ops.length : Int) := by omega
              have p7 : (0 : Int) ≤ (gi : Int) := Int.natCast_nonneg _
              clear f5 c5 hS6 hgm HS5d HS5 HX5
              go_wp2_with fail
              refine wp_region_L (l := 9) (S := (fun W => W.cell? ⟨RB, 0, none⟩ = some (.slice (some ⟨ob, 0, none⟩) r.ops.length cl) ∧ W.cell? ⟨Xg, 0, none⟩ = some (.int .i64 gi))) (by kernel_rfl) ?_ (fun hHeld => ?_)
              · ((try dsimp only); (exact HSS.out))
              refine wpAnyL_take (i := 0) (oi := _) (v := ?v24) rfl (by kernel_rfl) (fun _ _ _ h => h) (by assumption) (Or.inl ⟨by kernel_rfl, ?y24⟩) ?r24
              case y24 => (intro w hSw; (try dsimp only at hSw); go_simp; all_goals with_reducible rfl)
              try simp only [List.getElem_toArray, List.getElem_cons_zero, List.getElem_cons_succ, Act.put, List.setIfInBounds_toArray, List.set_cons_zero, List.set_cons_succ]
              refine wpAnyL_take (i := 1) (oi := _) (v := ?v25) rfl (by kernel_rfl) (fun _ _ _ h => h) (by assumption) (Or.inl ⟨by kernel_rfl, ?y25⟩) ?r25
              case y25 => (intro w hSw; (try dsimp only at hSw); go_simp; all_goals with_reducible rfl)
              try simp only [List.getElem_toArray, List.getElem_cons_zero, List.getElem_cons_succ, Act.put, List.setIfInBounds_toArray, List.set_cons_zero, List.set_cons_succ]
              refine wpAnyL_take (i := 2) (oi := _) (v := ?v26) rfl (by kernel_rfl) (fun _ _ _ h => h) (by assumption) (Or.inl ⟨by kernel_rfl, ?y26⟩) ?r26
              case y26 => (intro w hSw; (try dsimp only at hSw); go_simp; all_goals with_reducible rfl)
              try simp only [List.getElem_toArray, List.getElem_cons_zero, List.getElem_cons_succ, Act.put, List.setIfInBounds_toArray, List.set_cons_zero, List.set_cons_succ]
              refine wpAnyL_take (i := 3) (oi := _) (v := ?v27) rfl (by kernel_rfl) (fun _ _ _ h => h) (by assumption) (Or.inl ⟨by kernel_rfl, ?y27⟩) ?r27
              case y27 => (intro w hSw; (try dsimp only at hSw); go_simp; all_goals with_reducible rfl)
              try simp only [List.getElem_toArray, List.getElem_cons_zero, List.getElem_cons_succ, Act.put, List.setIfInBounds_toArray, List.set_cons_zero, List.set_cons_succ]
              refine wpAnyL_take (i := 4) (oi := _) (v := ?v28) rfl (by kernel_rfl) (fun _ _ _ h => h) (by assumption) (Or.inl ⟨by kernel_rfl, ?y28⟩) ?r28
              case y28 => (intro w hSw; (try dsimp only at hSw); go_simp; all_goals with_reducible rfl)
              try simp only [List.getElem_toArray, List.getElem_cons_zero, List.getElem_cons_succ, Act.put, List.setIfInBounds_toArray, List.set_cons_zero, List.set_cons_succ]
              refine wpAnyL_take (i := 5) (oi := _) (v := ?v29) rfl (by kernel_rfl) (fun _ _ _ h => h) (by assumption) (Or.inl ⟨by kernel_rfl, ?y29⟩) ?r29
              case y29 => (intro w hSw; (try dsimp only at hSw); go_simp; all_goals with_reducible rfl)
              try simp only [List.getElem_toArray, List.getElem_cons_zero, List.getElem_cons_succ, Act.put, List.setIfInBounds_toArray, List.set_cons_zero, List.set_cons_succ]
              refine wpAnyL_take (i := 6) (oi := _) (v := ?v30) rfl (by kernel_rfl) (fun _ _ _ h => h) (by assumption) (Or.inl ⟨by kernel_rfl, ?y30⟩) ?r30
              case y30 => (intro w hSw; (try dsimp only at hSw); go_simp; all_goals with_reducible rfl)
              try simp only [List.getElem_toArray, List.getElem_cons_zero, List.getElem_cons_succ, Act.put, List.setIfInBounds_toArray, List.set_cons_zero, List.set_cons_succ]
              refine wpAnyL_take (i := 7) (oi := _) (v := ?v31) rfl (by kernel_rfl) (fun _ _ _ h => h) (by assumption) (Or.inl ⟨by kernel_rfl, ?y31⟩) ?r31
              case y31 => (intro w hSw; (try dsimp only at hSw); go_simp; all_goals with_reducible rfl)
              try simp only [List.getElem_toArray, List.getElem_cons_zero, List.getElem_cons_succ, Act.put, List.setIfInBounds_toArray, List.set_cons_zero, List.set_cons_succ]
              refine wpAnyL_take (i := 8) (oi := _) (v := ?v32) rfl (by kernel_rfl) (fun _ _ _ h => h) (by assumption) (Or.inl ⟨by kernel_rfl, ?y32⟩) ?r32
              case y32 => (intro w hSw; (try dsimp only at hSw); go_simp; all_goals with_reducible rfl)
              try simp only [List.getElem_toArray, List.getElem_cons_zero, List.getElem_cons_succ, Act.put, List.setIfInBounds_toArray, List.set_cons_zero, List.set_cons_succ]
              refine wpAnyL_last (j := 9) (o := _) (by kernel_rfl) rfl (by rfl) (by kernel_rfl) (fun K hK => ?_)
              (clear hHeld; obtain ⟨hf9, hu9⟩ := HF9.out; go_simp; clear hf9 hu9)
              (refine hK _ _ ?_; clear hK K)
              try simp only [List.getElem_toArray, List.getElem_cons_zero, List.getElem_cons_succ, Act.put, List.setIfInBounds_toArray, List.set_cons_zero, List.set_cons_succ]
              clear HSS HF9
              have hgnn := hgn.out
              go_wp2_with fail
              go_roundw
              case rel => exact ⟨k + 1, _, by go_num, by omega, HS6, hR2⟩
              case measure => simp [intOf]; omega
          · obtain rfl : k = r.goals.length := by omega
            have HF : Hid (Sum.inl ops = R) := Lib.hid (by have h := hR.out; rw [List.drop_length, goalsV] at h; exact h)
            obtain rfl := HF.out
            clear HF hR
            have r0 := cell_of hS.out.rd.blk 0
            simp only [List.getElem?_toArray, List.getElem?_cons_zero, List.getElem?_cons_succ] at r0
            go_wp2_with fail
            refine bodyPost_ret (v := .tuple #[.slice Al r.ops.length cl, .int .i64 0, .int .i64 0]) (by simp [results, Tryz.results4, go_sem]) rfl ?_
            exact ⟨⟨_, rfl, hS.out.rd.ops⟩, hS.out.bel⟩
end Go.Proofs.YtkkcngppmhebbaaGreatDoor
