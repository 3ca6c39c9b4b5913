/-
  The document's Parse walked.
-/
import Derived.Test.YtkkcngppmhebbaaGreatDoorRf18N
import Derived.Test.YtkkcngppmhebbaaGreatDoorAsmParse
import Derived.BigRegion
set_option linter.unusedVariables false
set_option linter.unusedSimpArgs false
namespace Go.Proofs.YtkkcngppmhebbaaGreatDoor
open Go.RowKit

theorem insV_labels {r r' : Rd} {w0 : List UInt8} {rest : List (List UInt8)} {line : Nat} (h : insV r w0 rest line = some r') : r'.labels = r.labels := by
  unfold insV at h
  split at h
  · cases h
  · injection h with h; rw [← h]
theorem own_under {W W' : World} {B e k n RB : Nat} {v : Value} {xs : List Value} (h : W.ownsRow B e k v n xs) (hlt : ∀ g, v.ownBlock = some g → g < RB) (hb : Below RB W W') : W'.ownsRow B e k v n xs :=
  ⟨h.1, h.2.imp id fun ⟨g, cap, cur, h1, h2, h3, r⟩ => ⟨g, cap, cur, h1, h2, (hb.block g (hlt g (by rw [h1]; rfl))).trans h3, r⟩⟩
theorem wordsGo_ne : ∀ (l cur : List UInt8), ∀ x ∈ wordsGo cur l, x ≠ []
  | [], cur, x, hx => by
    rw [wordsGo] at hx
    unfold flushV at hx
    split at hx
    · cases hx
    · next h => rw [List.mem_singleton] at hx; subst hx; simpa using h
  | b :: l, cur, x, hx => by
    have fl : ∀ y ∈ flushV cur, y ≠ [] := fun y hy => by
      unfold flushV at hy
      split at hy
      · cases hy
      · next h => rw [List.mem_singleton] at hy; subst hy; simpa using h
    rw [wordsGo] at hx
    split at hx
    · exact fl x hx
    · split at hx
      · rcases List.mem_append.1 hx with hx | hx
        · exact fl x hx
        · exact wordsGo_ne l [] x hx
      · exact wordsGo_ne l _ x hx
theorem last_58 {w : List UInt8} (h : w ≠ []) : ∃ c : UInt8, w.getLast? = some c ∧ (∀ hh, ((⟨w.toArray⟩ : ByteArray)[w.length - 1]'hh) = c) := by
  refine ⟨w.getLast h, List.getLast?_eq_some_getLast h, fun hh => ?_⟩
  rw [List.getLast_eq_getElem]
  rfl
theorem labs_len {labs : List (List UInt8)} {plcs : List Nat} (h : labs.length = plcs.length) : (labs.zip plcs).length = labs.length := by simp [h]
theorem zip_snoc {labs : List (List UInt8)} {plcs : List Nat} (h : labs.length = plcs.length) (x : List UInt8) (p : Nat) : (labs ++ [x]).zip (plcs ++ [p]) = labs.zip plcs ++ [(x, p)] := by
  rw [List.zip_append h]; rfl
theorem zip_places {labs : List (List UInt8)} {plcs : List Nat} {n : Nat} (h : labs.length = plcs.length) (hp : ∀ x ∈ labs.zip plcs, x.2 ≤ n) : ∀ p ∈ plcs, p ≤ n := fun p hm => by
  obtain ⟨i, hi, rfl⟩ := List.getElem_of_mem hm
  have : (labs.zip plcs)[i]'(by simp; omega) ∈ labs.zip plcs := List.getElem_mem _
  have := hp _ this
  simpa using this
def RfIs (RB : Nat) (ops : List Cmd) (labs : List (List UInt8)) (plcs : List Nat) (gls : List (Nat × Nat × List UInt8)) (W : World) : Prop := ∃ vo vl vp vg, RfS RB ops labs plcs gls vo vl vp vg W
/-- what the store of a label's place reads -/
abbrev RgS2 (RB gb i : Nat) (vo vg : Value) (gi : Nat) (W : World) : Prop := W.cell? ⟨RB, 0, none⟩ = some vo ∧ W.cell? ⟨RB, 3, none⟩ = some vg ∧ W.cell? ⟨gb, i, none⟩ = some (.int .i64 (gi : Int))
theorem rins_is (H RB : Nat) (ops : List Cmd) (labs : List (List UInt8)) (plcs : List Nat) (gls : List (Nat × Nat × List UInt8)) (w0 : List UInt8) (rest : List (List UInt8)) (A : Option Addr) (c0 : Nat) (line : Nat) (w : World) (h : RfIs RB ops labs plcs gls w)
    (hW : w.ownsRow H 9 1 (.slice A (rest.length + 1) c0) (rest.length + 1) ((w0 :: rest).map fun l => Value.string ⟨l.toArray⟩)) (hlen : ∀ x ∈ w0 :: rest, x.length ≤ 65536) (hrl : rest.length ≤ 65536)
    (hops : ops.length ≤ 100000) (hgs : gls.length ≤ 100000) (hline : line ≤ 100000) :
    Calls Tryz.prog 20 #[.pointer (some ⟨RB, 0, none⟩), .slice A (rest.length + 1) c0, .int .i64 line] w fun e w' =>
      (match insV ⟨ops, labs.zip plcs, gls⟩ w0 rest line with
        | some r' => e = .returned (.int .i64 0) ∧ RfIs RB r'.ops labs plcs r'.goals w'
        | none => e = .returned (.int .i64 13)) ∧ Below RB w w' := by
  obtain ⟨vo, vl, vp, vg, hr⟩ := h
  refine (rins_any H RB ops labs plcs gls vo vl vp vg w0 rest A c0 line w hr hW hlen hrl hops hgs hline).mono fun e w' hh => ?_
  obtain ⟨h1, h2⟩ := hh
  refine ⟨?_, h2⟩
  cases hi : insV ⟨ops, labs.zip plcs, gls⟩ w0 rest line with
  | none => rw [hi] at h1; exact h1
  | some r' =>
    rw [hi] at h1
    obtain ⟨h3, vo', vg', h4⟩ := h1
    exact ⟨h3, _, _, _, _, h4⟩
theorem rlab_is (RB : Nat) (ops : List Cmd) (labs : List (List UInt8)) (plcs : List Nat) (gls : List (Nat × Nat × List UInt8)) (x : List UInt8) (w : World) (h : RfIs RB ops labs plcs gls w)
    (hn : labs.length = plcs.length) (hl : labs.length ≤ 100000) (hp : ∀ p ∈ plcs, p ≤ 1000000) (ho : ops.length ≤ 100000) (hx : x.length ≤ 65536) :
    Calls Tryz.prog 19 #[.pointer (some ⟨RB, 0, none⟩), .string ⟨x.toArray⟩] w fun e w' =>
      (if labelB x = true then (match lookV x (labs.zip plcs) with
        | some _ => e = .returned (.int .i64 8)
        | none => e = .returned (.int .i64 0) ∧ RfIs RB ops (labs ++ [x]) (plcs ++ [ops.length]) gls w') else e = .returned (.int .i64 13)) ∧ Below RB w w' := by
  obtain ⟨vo, vl, vp, vg, hr⟩ := h
  refine (rlab_any RB ops labs plcs gls vo vl vp vg x w hr hn hl hp ho hx).mono fun e w' hh => ?_
  obtain ⟨h1, h2⟩ := hh
  refine ⟨?_, h2⟩
  cases hlb : labelB x with
  | false => rw [hlb] at h1; exact h1
  | true =>
    rw [hlb, if_pos rfl] at h1
    rw [if_pos rfl]
    cases hlk : lookV x (labs.zip plcs) with
    | some p => rw [hlk] at h1; exact h1
    | none =>
      rw [hlk] at h1
      obtain ⟨h3, vl', vp', h4⟩ := h1
      exact ⟨h3, _, _, _, _, h4⟩
/-- between lines -/
structure RpSt (H RB : Nat) (vl : Value) (n : Nat) (lns : List (List UInt8)) (w : World) (ops : List Cmd) (labs : List (List UInt8)) (plcs : List Nat) (gls : List (Nat × Nat × List UInt8)) (W : World) : Prop where
  rd : RfIs RB ops labs plcs gls W
  ln : W.ownsRow H 9 1 vl n (strVs lns)
  lt : ∀ k, vl.ownBlock = some k → k < RB
  bel : Below H w W
  hs : H ≤ RB
theorem RpSt.below {H RB n : Nat} {vl : Value} {lns : List (List UInt8)} {w W W' : World} {ops : List Cmd} {labs : List (List UInt8)} {plcs : List Nat} {gls : List (Nat × Nat × List UInt8)} (h : RpSt H RB vl n lns w ops labs plcs gls W) (hb : Below W.heap.size W W') : RpSt H RB vl n lns w ops labs plcs gls W' := by
  obtain ⟨vo, vl', vp, vg, hr⟩ := h.rd
  exact ⟨⟨_, _, _, _, hr.below hb⟩, own_belowI h.ln hb, h.lt, h.bel.trans (hb.mono (Nat.le_trans h.hs (Nat.le_of_lt hr.lt))), h.hs⟩
theorem RpSt.turned {H RB n : Nat} {vl : Value} {lns : List (List UInt8)} {w W W' : World} {ops ops' : List Cmd} {labs labs' : List (List UInt8)} {plcs plcs' : List Nat} {gls gls' : List (Nat × Nat × List UInt8)} (h : RpSt H RB vl n lns w ops labs plcs gls W)
    (hr : RfIs RB ops' labs' plcs' gls' W') (hb : Below RB W W') : RpSt H RB vl n lns w ops' labs' plcs' gls' W' :=
  ⟨hr, own_under h.ln h.lt hb, h.lt, h.bel.trans (hb.mono h.hs), h.hs⟩
theorem RpSt.line {H RB n : Nat} {A : Option Addr} {c : Nat} {lns : List (List UInt8)} {w W : World} {ops : List Cmd} {labs : List (List UInt8)} {plcs : List Nat} {gls : List (Nat × Nat × List UInt8)} (h : RpSt H RB (.slice A n c) n lns w ops labs plcs gls W) {i : Nat} {l : List UInt8} (hl : lns[i]? = some l) :
    ∃ g, A = some ⟨g, 0, none⟩ ∧ W.cell? ⟨g, i, none⟩ = some (.string ⟨l.toArray⟩) := own_cellat h.ln (by rw [List.getElem?_map, hl]; rfl)
/-- among the jumps -/
structure RgoSt (H RB : Nat) (w : World) (n : Nat) (labs : List (List UInt8)) (plcs : List Nat) (gls : List (Nat × Nat × List UInt8)) (Al : Option Addr) (cl : Nat) (Ag : Option Addr) (cg : Nat) (vl vp : Value) (ops : List Cmd) (W : World) : Prop where
  rd : RfS RB ops labs plcs gls (.slice Al n cl) vl vp (.slice Ag gls.length cg) W
  len : ops.length = n
  bel : Below H w W
  hs : H ≤ RB
section
variable {H RB n : Nat} {w W W' : World} {labs : List (List UInt8)} {plcs : List Nat} {gls : List (Nat × Nat × List UInt8)} {Al Ag : Option Addr} {cl cg : Nat} {vl vp : Value} {ops : List Cmd}
theorem RgoSt.below (h : RgoSt H RB w n labs plcs gls Al cl Ag cg vl vp ops W) (hb : Below W.heap.size W W') : RgoSt H RB w n labs plcs gls Al cl Ag cg vl vp ops W' :=
  ⟨h.rd.below hb, h.len, h.bel.trans (hb.mono (Nat.le_trans h.hs (Nat.le_of_lt h.rd.lt))), h.hs⟩
theorem RgoSt.goal (h : RgoSt H RB w n labs plcs gls Al cl Ag cg vl vp ops W) {k : Nat} {g : Nat × Nat × List UInt8} (hk : gls[k]? = some g) :
    ∃ gb, Ag = some ⟨gb, 0, none⟩ ∧ W.cell? ⟨gb, k * 3, none⟩ = some (.int .i64 g.1) ∧ W.cell? ⟨gb, k * 3 + 1, none⟩ = some (.string ⟨g.2.2.toArray⟩) ∧ W.cell? ⟨gb, k * 3 + 2, none⟩ = some (.int .i64 g.2.1) := by
  have hlt := (List.getElem?_eq_some_iff.1 hk).1
  have ho := h.rd.gls
  obtain ⟨gb, hgb⟩ : ∃ gb, Ag = some ⟨gb, 0, none⟩ := by
    rcases ho.2 with ⟨-, hn⟩ | ⟨g', cap, cur, hv, -⟩
    · omega
    · injection hv with h1 _ _; exact ⟨g', h1⟩
  subst hgb
  have hc := fun j (hj : j < 3) => ho.cells (g := gb) rfl (k * 3 + j)
  have hf := fun j (hj : j < 3) => flat_at rgoalCells 3 (fun _ => rfl) gls k j g hk hj
  have hadd : ∀ i, (⟨gb, 0, none⟩ : Addr).add i = ⟨gb, i, none⟩ := fun i => by unfold Addr.add; split <;> simp_all
  refine ⟨gb, rfl, ?_, ?_, ?_⟩
  · have := hc 0 (by decide) (.int .i64 g.1) (by rw [hf 0 (by decide)]; rfl)
    rw [hadd] at this; exact this
  · have := hc 1 (by decide) (.string ⟨g.2.2.toArray⟩) (by rw [hf 1 (by decide)]; rfl)
    rw [hadd] at this; exact this
  · have := hc 2 (by decide) (.int .i64 g.2.1) (by rw [hf 2 (by decide)]; rfl)
    rw [hadd] at this; exact this
theorem RgoSt.store (h : RgoSt H RB w n labs plcs gls Al cl Ag cg vl vp ops W) {i p : Nat} (hi : i < n) :
    ∃ lb, Al = some ⟨lb, 0, none⟩ ∧ W.frozen? ⟨lb, i * 6 + 5, none⟩ = false ∧ (∃ u : Int, W.cell? ⟨lb, i * 6 + 5, none⟩ = some (.int .i64 u)) ∧
      RgoSt H RB w n labs plcs gls Al cl Ag cg vl vp (setN ops i p) (W.setCell ⟨lb, i * 6 + 5, none⟩ (.int .i64 p)) := by
  have ho := h.rd.ops
  have hlt : i < ops.length := by rw [h.len]; exact hi
  obtain ⟨lb, hlb⟩ : ∃ lb, Al = some ⟨lb, 0, none⟩ := by
    rcases ho.2 with ⟨-, hn⟩ | ⟨g', cap, cur, hv, -⟩
    · omega
    · injection hv with h1 _ _; exact ⟨g', h1⟩
  subst hlb
  obtain ⟨hHl, cs, hcs⟩ := own_kind ho (g := lb) rfl
  have hget : ops[i]? = some ops[i] := List.getElem?_eq_getElem hlt
  have hf := flat_at Cmd.cells 6 (fun _ => rfl) ops i 5 ops[i] hget (by decide)
  have hc := ho.cells (g := lb) rfl (i * 6 + 5) (.int .i64 ops[i].n) (by rw [hf]; rfl)
  have hadd : ∀ i, (⟨lb, 0, none⟩ : Addr).add i = ⟨lb, i, none⟩ := fun i => by unfold Addr.add; split <;> simp_all
  rw [hadd] at hc
  have hset : setN ops i p = ops.set i { ops[i] with n := (p : Int) } := by unfold setN; rw [hget]
  have nRB : RB ≠ lb := fun e => by have h1 := h.rd.blk; rw [e, hcs] at h1; injection h1 with h1; injection h1 with _ h1; exact absurd h1 (by decide)
  have other : ∀ {B e k n : Nat} {v : Value} {xs : List Value}, W.ownsRow B e k v n xs → e ≠ 79 → v.ownBlock ≠ some lb := fun ho' hT e => by
    obtain ⟨-, cs2, hcs2⟩ := own_kind ho' e
    rw [hcs] at hcs2; injection hcs2 with hcs2; injection hcs2 with _ hcs2; exact hT hcs2.symm
  refine ⟨lb, rfl, frz_of hcs _, ⟨_, hc⟩, ⟨⟨?_, ?_, ?_, ?_, ?_⟩, ?_, ?_, h.hs⟩⟩
  · exact blk_set_ne h.rd.blk nRB _ _
  · rw [setN_len', hset, ← set_num ops i ops[i] p hget]
    have ho2 : W.ownsRow RB 79 6 (.slice (some ⟨lb, 0, none⟩) n cl) n (ops.flatMap Cmd.cells) := by rw [h.len] at ho; exact ho
    have := (ho2.stored (i * 6 + 5) (.int .i64 p)).1
    rw [h.len]; exact this
  · exact own_set_other h.rd.lab (p := ⟨lb, i * 6 + 5, none⟩) (other h.rd.lab (by decide)) _
  · exact own_set_other h.rd.plc (p := ⟨lb, i * 6 + 5, none⟩) (other h.rd.plc (by decide)) _
  · exact own_set_other h.rd.gls (p := ⟨lb, i * 6 + 5, none⟩) (other h.rd.gls (by decide)) _
  · rw [setN_len', h.len]
  · exact h.bel.trans ((Below.refl H W).setCell (p := ⟨lb, i * 6 + 5, none⟩) (Nat.le_trans h.hs hHl) _)
end

set_option maxHeartbeats 16000000 in
set_option maxRecDepth 100000 in
theorem rparse18_any (L : List UInt8) (w : World) :
    Calls Tryz.prog 5 #[.string ⟨L.toArray⟩] w fun e w' => ParsedIs (parseA L) w.heap.size e w' ∧ Below w.heap.size w w' := by
  obtain ⟨R, hR⟩ : ∃ R, parseA L = R := ⟨_, rfl⟩
  rw [hR]
  have HRes := Lib.hid hR
  clear hR
  have hsz : (⟨L.toArray⟩ : ByteArray).size = L.length := size_list L
  by_cases hlen : 65536 < L.length
  · have t1 : (65536 : Int) < (L.length : Int) := by omega
    have HF : Hid (Sum.inr (0, 3) = R) := Lib.hid (by rw [← HRes.out]; unfold parseA; rw [if_pos (by omega)])
    obtain rfl := HF.out
    clear HF HRes
    go_enter Tryz.func5, Tryz.ntmps5
    go_wp2_with fail
    refine bodyPost_ret (v := .tuple #[.slice none 0 0, .int .i64 0, .int .i64 3]) (by simp [results, Tryz.results5, go_sem]) rfl ?_
    exact ⟨rfl, Below.refl _ _⟩
  · have t1 : ¬ (65536 : Int) < (L.length : Int) := by omega
    have HL : Hid (L.length ≤ 65536) := Lib.hid (by omega)
    have HRun : Hid (after 0 ⟨[], [], []⟩ (linesV L) = R) := Lib.hid (by rw [← HRes.out]; unfold parseA after; rw [if_neg (by omega)]; cases runV ⟨[], [], []⟩ 0 (linesV L) <;> rfl)
    have HLm : Hid ((∀ x ∈ linesV L, x.length ≤ 65536) ∧ (linesV L).length ≤ 65537) := Lib.hid ⟨fun x hx => by have := linesGo_mem L [] x hx; simp at this; have := HL.out; omega, by have := linesGo_count L []; unfold linesV; omega⟩
    obtain ⟨lns, hlns⟩ : ∃ lns, linesV L = lns := ⟨_, rfl⟩
    rw [hlns] at HRun HLm
    obtain ⟨H, hH⟩ : ∃ H, w.heap.size = H := ⟨_, rfl⟩
    have CLn := Lib.hid (lines_any L HL.out w)
    rw [hlns, hH] at CLn
    have HH := Lib.hid hH
    rw [hH]
    clear HRes hlen hH hlns
    go_enter Tryz.func5, Tryz.ntmps5
    go_wp2_with (first | (go_at_call 17; refine CLn.out.mono ?_; rintro e w1 ⟨v, acc, rest, rfl, hacc, ho, hb⟩; have HAcc := Lib.hid hacc; have HO := Lib.hid ho; have HB1 := Lib.hid hb; have HAl : Hid (acc.length + 1 ≤ 65537) := Lib.hid (by have := HLm.out.2; rw [← hacc] at this; simpa using this); have HHs : Hid (H ≤ w1.heap.size) := Lib.hid (by have := hb.size; rw [HH.out] at this; exact this); clear hacc ho hb) | (at_builtin; refine wpList_append_s rfl _ _ rfl _ acc rfl (own_alloc HO.out _) ⟨_, 0, none⟩ 1 rfl rest (news_s _ _) ?c2 ?c3 ?_))
    case c2 => have := HAl.out; simp only [List.length_append, List.length_cons, List.length_nil]; omega
    case c3 => have := HHs.out; simp; omega
    intro v2 w2 hr hg
    have HOl : Hid (w2.ownsRow H 9 1 v2 lns.length (strVs lns)) := Lib.hid (by rw [← HAcc.out]; simpa using hr)
    have HB2 : Hid (Below H w w2) := Lib.hid ((HB1.out.alloc HHs.out _).grown hg (by have := HHs.out; simp; omega) (own_fromS HO.out))
    have HHs2 : Hid (H ≤ w2.heap.size) := Lib.hid (by have := HB2.out.size; rw [HH.out] at this; exact this)
    clear hr hg HO HAcc HAl HB1 HHs CLn
    obtain ⟨Al0, cl0, rfl⟩ := own_slice HOl.out
    obtain ⟨RB, hRB⟩ : ∃ RB, w2.heap.size = RB := ⟨_, rfl⟩
    obtain ⟨w3, hw3⟩ : ∃ w3, w2.alloc (.cells #[.slice none 0 0, .slice none 0 0, .slice none 0 0, .slice none 0 0] 86 (0, 0)) = w3 := ⟨_, rfl⟩
    have hb3 : Below w2.heap.size w2 w3 := by rw [← hw3]; exact (Below.refl _ _).alloc (Nat.le_refl _) _
    have HP : Hid (RpSt H RB (.slice Al0 lns.length cl0) lns.length lns w [] [] [] [] w3) := Lib.hid ⟨⟨.slice none 0 0, .slice none 0 0, .slice none 0 0, .slice none 0 0, ⟨by rw [← hw3, ← hRB]; exact heap_alloc_new w2 _, World.ownsRow_nil _ _ _ _, World.ownsRow_nil _ _ _ _, World.ownsRow_nil _ _ _ _, World.ownsRow_nil _ _ _ _⟩⟩, own_belowI HOl.out hb3, fun k hk => by rw [← hRB]; exact (HOl.out.lt k hk).2, HB2.out.trans (hb3.mono HHs2.out), by rw [← hRB]; exact HHs2.out⟩
    have HNm := Lib.hid (And.intro hRB hw3)
    clear hRB hw3 hb3 HOl HB2
    go_wp2_with fail
    obtain ⟨e1, e2⟩ := HNm.out
    simp only [e1, e2]
    clear e1 e2 HNm
    go_loopw [8] (fun ii wr => ∃ (i : Nat) (ops : List Cmd) (labs : List (List UInt8)) (plcs : List Nat) (gls : List (Nat × Nat × List UInt8)), ii = .int .i64 i ∧ i ≤ lns.length ∧ Hid (RpSt H RB (.slice Al0 lns.length cl0) lns.length lns w ops labs plcs gls wr) ∧ Hid (labs.length = plcs.length) ∧ Hid (after i ⟨ops, labs.zip plcs, gls⟩ (lns.drop i) = R) ∧ Hid (Few ⟨ops, labs.zip plcs, gls⟩ i) ∧ Hid (GoalsIn ⟨ops, labs.zip plcs, gls⟩)) (fun ii _ => lns.length - (intOf ii).toNat)
    case atStart => exact ⟨0, [], [], [], [], rfl, Nat.zero_le _, HP, Lib.hid rfl, Lib.hid (by rw [List.drop_zero]; exact HRun.out), Lib.hid ⟨by simp, by simp, by simp, by simp⟩, Lib.hid (fun g hg => by cases hg)⟩
    case round =>
      obtain ⟨i, ops, labs, plcs, gls, rfl, hi, hP, hLP, hRun, hFew, hGI⟩ := hrel
      clear HP HRun
      have hln := HLm.out.2
      have p2 : (0 : Int) ≤ (i : Int) := Int.natCast_nonneg _
      by_cases hlt : i < lns.length
      · obtain ⟨l, hl⟩ : ∃ l, lns[i]? = some l := ⟨_, List.getElem?_eq_getElem hlt⟩
        have hlm : l ∈ lns := List.mem_of_getElem? hl
        have hdrop : lns.drop i = l :: lns.drop (i + 1) := by
          have := List.drop_eq_getElem_cons hlt
          rw [List.getElem?_eq_getElem hlt] at hl
          injection hl with hl
          rw [this, hl]
        have hll : l.length ≤ 65536 := HLm.out.1 l hlm
        obtain ⟨gl0, rfl, c1⟩ := hP.out.line hl
        have p1 : (i : Int) < (lns.length : Int) := by omega
        have CW := Lib.hid (fun W => words_any l hll W)
        have hRun1 := Lib.hid hRun.out
        rw [hdrop, after_cons] at hRun1
        have hwl : Hid ((∀ x ∈ wordsV l, x.length ≤ 65536) ∧ (wordsV l).length ≤ 65536 ∧ (∀ x ∈ wordsV l, x ≠ [])) := Lib.hid (by
          refine ⟨?_, ?_, fun x hx => wordsGo_ne l [] x hx⟩
          · rw [wordsV_fields]; intro x hx; have := fieldsGo_mem _ [] x hx; have := tw_len l; simp at *; omega
          · rw [wordsV_fields]; have := fieldsGo_count (l.takeWhile (· != 35)) []; have := tw_len l; simp at *; omega)
        obtain ⟨ws, hws⟩ : ∃ ws, wordsV l = ws := ⟨_, rfl⟩
        rw [hws] at CW hRun1 hwl
        clear hRun hdrop hlm hl hll hws
        cases ws with
        | nil =>
          have hRun2 : Hid (after (i + 1) ⟨ops, labs.zip plcs, gls⟩ (lns.drop (i + 1)) = R) := Lib.hid hRun1.out
          have hFew2 := Lib.hid hFew.out.more
          clear hRun1
          go_wp2_with (go_at_call 18; refine (CW.out _).mono ?_; rintro e w2 ⟨vw, rfl, hOw, hb2⟩)
          have HP2 := Lib.hid (hP.out.below hb2)
          obtain ⟨Aw, cw, rfl⟩ := own_slice hOw
          have HOw := Lib.hid hOw
          clear hOw hb2
          go_quiet (fail)
          go_wp2_with fail
          go_roundw
          case rel => exact ⟨i + 1, ops, labs, plcs, gls, by go_num, by omega, Lib.hid (HP2.out.below (below_drewN _ _ _)), hLP, hRun2, hFew2, hGI⟩
          case measure => simp [intOf]; omega
        | cons w0 rest =>
          have hRun2 : Hid ((match lineV ⟨ops, labs.zip plcs, gls⟩ i (w0 :: rest) with | .inl r' => after (i + 1) r' (lns.drop (i + 1)) | .inr e => .inr (i, e)) = R) := Lib.hid hRun1.out
          clear hRun1
          have hne0 : w0 ≠ [] := hwl.out.2.2 w0 List.mem_cons_self
          have hl0 : w0.length ≤ 65536 := hwl.out.1 w0 List.mem_cons_self
          have HFn : Hid (ops.length ≤ 65537 ∧ gls.length ≤ 65537 ∧ labs.length ≤ 65537 ∧ (∀ p ∈ plcs, p ≤ 65537) ∧ i ≤ 65537) := Lib.hid (by
            have h1 := hFew.out.ops
            have h2 := hFew.out.goals
            have h3 := hFew.out.labels
            have h4 := zip_places hLP.out hFew.out.places
            have h5 := HLm.out.2
            rw [labs_len hLP.out] at h3
            dsimp only at h1 h2
            exact ⟨by omega, by omega, by omega, fun p hp => by have := h4 p hp; omega, by omega⟩)
          have CI := Lib.hid (fun (W : World) (B c : Nat) (A : Option Addr) (hp : RpSt H RB (.slice (some ⟨gl0, 0, none⟩) lns.length cl0) lns.length lns w ops labs plcs gls W) (ho : W.ownsRow B 9 1 (.slice A (rest.length + 1) c) (rest.length + 1) ((w0 :: rest).map fun l => Value.string ⟨l.toArray⟩)) =>
            rins_is B RB ops labs plcs gls w0 rest A c i W hp.rd ho hwl.out.1 (by have := hwl.out.2.1; simp at this; omega) (by have := HFn.out; omega) (by have := HFn.out; omega) (by have := HFn.out; omega))
          by_cases hre : rest = []
          · subst hre
            obtain ⟨lc, hlc, hget⟩ := last_58 hne0
            have hsw : (⟨w0.toArray⟩ : ByteArray).size = w0.length := size_list w0
            have hpos : 0 < w0.length := List.length_pos_iff.2 hne0
            have hnat : ((w0.length : Int) - 1).toNat = w0.length - 1 := by omega
            have hget2 : ∀ hh, ((⟨w0.toArray⟩ : ByteArray)[((w0.length : Int) - 1).toNat]'hh) = lc := by rw [hnat]; exact hget
            have hwr : IntKind.i64.wrap ((w0.length : Int) - 1) = (w0.length : Int) - 1 := by rw [IntKind.wrap_i64]; omega
            have hp1 : (0 : Int) ≤ (w0.length : Int) - 1 := by omega
            have hp2 : (w0.length : Int) - 1 < (w0.length : Int) := by omega
            have hp3 : w0.length - 1 < w0.length := by omega
            have hp5 : (w0.length : Int) - 1 ≤ (w0.length : Int) := by omega
            have hp4 : (1 : Int) ≤ (w0.length : Int) := by omega
            clear hne0
            by_cases hs : lc = 58
            · subst hs
              have hlv : Hid (lineV ⟨ops, labs.zip plcs, gls⟩ i [w0] = (if labelB w0.dropLast then (match lookV w0.dropLast (labs.zip plcs) with | some _ => .inr 8 | none => .inl ⟨ops, labs.zip plcs ++ [(w0.dropLast, ops.length)], gls⟩) else .inr 13)) := Lib.hid (by unfold lineV; dsimp only; rw [if_pos ⟨rfl, hlc⟩]; rfl)
              have hex : (⟨w0.toArray⟩ : ByteArray).extract 0 ((w0.length : Int) - 1).toNat = ⟨w0.dropLast.toArray⟩ := by rw [hnat, extract_list, List.drop_zero, Nat.sub_zero, List.dropLast_eq_take]
              have hex2 : (⟨w0.toArray⟩ : ByteArray).extract 0 (w0.length - 1) = ⟨w0.dropLast.toArray⟩ := by rw [hnat] at hex; exact hex
              obtain ⟨nm, hnm⟩ : ∃ nm, w0.dropLast = nm := ⟨_, rfl⟩
              rw [hnm] at hlv hex hex2
              have hnl : nm.length ≤ 65536 := by rw [← hnm, List.length_dropLast]; omega
              have CL := Lib.hid (fun (W : World) (hp : RpSt H RB (.slice (some ⟨gl0, 0, none⟩) lns.length cl0) lns.length lns w ops labs plcs gls W) => rlab_is RB ops labs plcs gls nm W hp.rd hLP.out (by have := HFn.out; omega) (fun p hp => by have := HFn.out.2.2.2.1 p hp; omega) (by have := HFn.out; omega) hnl)
              clear CI hnm hlc
              have tq : ((((58 : UInt8).toNat : Nat) : Int) == 58) = true := by decide
              cases hlb : labelB nm with
              | false =>
                have HF : Hid (Sum.inr (i, 13) = R) := Lib.hid (by rw [← hRun2.out, hlv.out, hlb]; rfl)
                simp only [hlb, Bool.false_eq_true, ↓reduceIte] at CL
                clear hRun2
                obtain rfl := HF.out
                clear HF
                go_wp2_with (go_at_call 18; refine (CW.out _).mono ?_; rintro e w2 ⟨vw, rfl, hOw, hb2⟩)
                have HP2 := Lib.hid (hP.out.below hb2)
                obtain ⟨Aw, cw, rfl⟩ := own_slice hOw
                have HOw := Lib.hid hOw
                clear hOw hb2
                have HOw : Hid (w2.ownsRow wr.heap.size 9 1 (.slice Aw (([] : List (List UInt8)).length + 1) cw) (([] : List (List UInt8)).length + 1) ([w0].map fun l => Value.string ⟨l.toArray⟩)) := HOw
                obtain ⟨gw, rfl⟩ := words_addr HOw.out
                have c3 := words_at HOw.out 0 w0 rfl
                go_quiet (fail)
                have HPd := Lib.hid (fun n => HP2.out.below (below_drewN _ w2 n).drew)
                have HCd := Lib.hid (fun n => words_at (own_belowI HOw.out (below_drewN _ w2 n).drew) 0 w0 rfl)
                clear c3 HP2 HOw c1
                go_wp2_with fail
                refine wp_region_L (l := 10) (S := (fun W => W.cell? ⟨gw, 0, none⟩ = some (.string ⟨w0.toArray⟩))) (by kernel_rfl) ?_ (fun hHeld => ?_)
                · ((try dsimp only); (exact HCd.out _))
                refine wpAnyL_take (i := 0) (oi := _) (v := ?v1) rfl (by kernel_rfl) (fun _ _ _ h => h) (by assumption) (Or.inl ⟨by kernel_rfl, ?y1⟩) ?r1
                case y1 => (intro w hSw; (try dsimp only at hSw); go_simp; all_goals with_reducible rfl)
                try simp only [List.getElem_toArray, List.getElem_cons_zero, List.getElem_cons_succ, Act.put, List.setIfInBounds_toArray, List.set_cons_zero, List.set_cons_succ]
                refine wpAnyL_take (i := 1) (oi := _) (v := ?v2) rfl (by kernel_rfl) (fun _ _ _ h => h) (by assumption) (Or.inl ⟨by kernel_rfl, ?y2⟩) ?r2
                case y2 => (intro w hSw; (try dsimp only at hSw); go_simp; all_goals with_reducible rfl)
                try simp only [List.getElem_toArray, List.getElem_cons_zero, List.getElem_cons_succ, Act.put, List.setIfInBounds_toArray, List.set_cons_zero, List.set_cons_succ]
                refine wpAnyL_take (i := 2) (oi := _) (v := ?v3) rfl (by kernel_rfl) (fun _ _ _ h => h) (by assumption) (Or.inl ⟨by kernel_rfl, ?y3⟩) ?r3
                case y3 => (intro w hSw; (try dsimp only at hSw); go_simp; all_goals with_reducible rfl)
                try simp only [List.getElem_toArray, List.getElem_cons_zero, List.getElem_cons_succ, Act.put, List.setIfInBounds_toArray, List.set_cons_zero, List.set_cons_succ]
                refine wpAnyL_take (i := 3) (oi := _) (v := ?v4) rfl (by kernel_rfl) (fun _ _ _ h => h) (by assumption) (Or.inl ⟨by kernel_rfl, ?y4⟩) ?r4
                case y4 => (intro w hSw; (try dsimp only at hSw); go_simp; all_goals with_reducible rfl)
                try simp only [List.getElem_toArray, List.getElem_cons_zero, List.getElem_cons_succ, Act.put, List.setIfInBounds_toArray, List.set_cons_zero, List.set_cons_succ]
                refine wpAnyL_take (i := 4) (oi := _) (v := ?v5) rfl (by kernel_rfl) (fun _ _ _ h => h) (by assumption) (Or.inl ⟨by kernel_rfl, ?y5⟩) ?r5
                case y5 => (intro w hSw; (try dsimp only at hSw); go_simp; all_goals with_reducible rfl)
                try simp only [List.getElem_toArray, List.getElem_cons_zero, List.getElem_cons_succ, Act.put, List.setIfInBounds_toArray, List.set_cons_zero, List.set_cons_succ]
                refine wpAnyL_take (i := 5) (oi := _) (v := ?v6) rfl (by kernel_rfl) (fun _ _ _ h => h) (by assumption) (Or.inl ⟨by kernel_rfl, ?y6⟩) ?r6
                case y6 => (intro w hSw; (try dsimp only at hSw); go_simp; all_goals with_reducible rfl)
                try simp only [List.getElem_toArray, List.getElem_cons_zero, List.getElem_cons_succ, Act.put, List.setIfInBounds_toArray, List.set_cons_zero, List.set_cons_succ]
                refine wpAnyL_take (i := 6) (oi := _) (v := ?v7) rfl (by kernel_rfl) (fun _ _ _ h => h) (by assumption) (Or.inl ⟨by kernel_rfl, ?y7⟩) ?r7
                case y7 => (intro w hSw; (try dsimp only at hSw); go_simp; all_goals with_reducible rfl)
                try simp only [List.getElem_toArray, List.getElem_cons_zero, List.getElem_cons_succ, Act.put, List.setIfInBounds_toArray, List.set_cons_zero, List.set_cons_succ]
                refine wpAnyL_take (i := 7) (oi := _) (v := ?v8) rfl (by kernel_rfl) (fun _ _ _ h => h) (by assumption) (Or.inl ⟨by kernel_rfl, ?y8⟩) ?r8
                case y8 => (intro w hSw; (try dsimp only at hSw); go_simp; all_goals with_reducible rfl)
                try simp only [List.getElem_toArray, List.getElem_cons_zero, List.getElem_cons_succ, Act.put, List.setIfInBounds_toArray, List.set_cons_zero, List.set_cons_succ]
                refine wpAnyL_take (i := 8) (oi := _) (v := ?v9) rfl (by kernel_rfl) (fun _ _ _ h => h) (by assumption) (Or.inl ⟨by kernel_rfl, ?y9⟩) ?r9
                case y9 => (intro w hSw; (try dsimp only at hSw); go_simp; all_goals with_reducible rfl)
                try simp only [List.getElem_toArray, List.getElem_cons_zero, List.getElem_cons_succ, Act.put, List.setIfInBounds_toArray, List.set_cons_zero, List.set_cons_succ]
                refine wpAnyL_take (i := 9) (oi := _) (v := ?v10) rfl (by kernel_rfl) (fun _ _ _ h => h) (by assumption) (Or.inl ⟨by kernel_rfl, ?y10⟩) ?r10
                case y10 => (intro w hSw; (try dsimp only at hSw); go_simp; all_goals with_reducible rfl)
                try simp only [List.getElem_toArray, List.getElem_cons_zero, List.getElem_cons_succ, Act.put, List.setIfInBounds_toArray, List.set_cons_zero, List.set_cons_succ]
                refine wpAnyL_behind (j := 10) (o := _) (by kernel_rfl) rfl (by rfl) (fun K hK => ?_)
                (go_simp; go_at_call 19; refine (CL.out _ (HPd.out _)).mono ?_; rintro e w4 ⟨rfl, hb4⟩; have HB4 := Lib.hid hb4; clear hb4; skip)
                refine hK _ _ ?_; clear hK K
                try simp only [List.getElem_toArray, List.getElem_cons_zero, List.getElem_cons_succ, Act.put, List.setIfInBounds_toArray, List.set_cons_zero, List.set_cons_succ]
                refine wpAnyL_last (j := 11) (o := _) (by kernel_rfl) rfl (by rfl) (by kernel_rfl) (fun K hK => ?_)
                go_simp
                (refine hK _ _ ?_; clear hK K)
                try simp only [List.getElem_toArray, List.getElem_cons_zero, List.getElem_cons_succ, Act.put, List.setIfInBounds_toArray, List.set_cons_zero, List.set_cons_succ]
                clear hget hget2 hwr hp1 hp2 hp3 hp4 hp5 hnat hsw hpos tq hex hex2 HCd
                go_wp2_with fail
                refine bodyPost_ret (v := .tuple #[.slice none 0 0, .int .i64 i, .int .i64 13]) (by simp [results, Tryz.results5, go_sem]) rfl ?_
                exact ⟨rfl, (HPd.out _).bel.trans (HB4.out.mono (HPd.out 0).hs)⟩
              | true =>
                simp only [hlb, ↓reduceIte] at CL
                cases hlk : lookV nm (labs.zip plcs) with
                | some p0 =>
                  have HF : Hid (Sum.inr (i, 8) = R) := Lib.hid (by rw [← hRun2.out, hlv.out, hlb, hlk]; rfl)
                  simp only [hlk] at CL
                  clear hRun2
                  obtain rfl := HF.out
                  clear HF
                  go_wp2_with (go_at_call 18; refine (CW.out _).mono ?_; rintro e w2 ⟨vw, rfl, hOw, hb2⟩)
                  have HP2 := Lib.hid (hP.out.below hb2)
                  obtain ⟨Aw, cw, rfl⟩ := own_slice hOw
                  have HOw := Lib.hid hOw
                  clear hOw hb2
                  have HOw : Hid (w2.ownsRow wr.heap.size 9 1 (.slice Aw (([] : List (List UInt8)).length + 1) cw) (([] : List (List UInt8)).length + 1) ([w0].map fun l => Value.string ⟨l.toArray⟩)) := HOw
                  obtain ⟨gw, rfl⟩ := words_addr HOw.out
                  have c3 := words_at HOw.out 0 w0 rfl
                  go_quiet (fail)
                  have HPd := Lib.hid (fun n => HP2.out.below (below_drewN _ w2 n).drew)
                  have HCd := Lib.hid (fun n => words_at (own_belowI HOw.out (below_drewN _ w2 n).drew) 0 w0 rfl)
                  clear c3 HP2 HOw c1
                  go_wp2_with fail
                  refine wp_region_L (l := 10) (S := (fun W => W.cell? ⟨gw, 0, none⟩ = some (.string ⟨w0.toArray⟩))) (by kernel_rfl) ?_ (fun hHeld => ?_)
                  · ((try dsimp only); (exact HCd.out _))
                  refine wpAnyL_take (i := 0) (oi := _) (v := ?v13) rfl (by kernel_rfl) (fun _ _ _ h => h) (by assumption) (Or.inl ⟨by kernel_rfl, ?y13⟩) ?r13
                  case y13 => (intro w hSw; (try dsimp only at hSw); go_simp; all_goals with_reducible rfl)
                  try simp only [List.getElem_toArray, List.getElem_cons_zero, List.getElem_cons_succ, Act.put, List.setIfInBounds_toArray, List.set_cons_zero, List.set_cons_succ]
                  refine wpAnyL_take (i := 1) (oi := _) (v := ?v14) rfl (by kernel_rfl) (fun _ _ _ h => h) (by assumption) (Or.inl ⟨by kernel_rfl, ?y14⟩) ?r14
                  case y14 => (intro w hSw; (try dsimp only at hSw); go_simp; all_goals with_reducible rfl)
                  try simp only [List.getElem_toArray, List.getElem_cons_zero, List.getElem_cons_succ, Act.put, List.setIfInBounds_toArray, List.set_cons_zero, List.set_cons_succ]
                  refine wpAnyL_take (i := 2) (oi := _) (v := ?v15) rfl (by kernel_rfl) (fun _ _ _ h => h) (by assumption) (Or.inl ⟨by kernel_rfl, ?y15⟩) ?r15
                  case y15 => (intro w hSw; (try dsimp only at hSw); go_simp; all_goals with_reducible rfl)
                  try simp only [List.getElem_toArray, List.getElem_cons_zero, List.getElem_cons_succ, Act.put, List.setIfInBounds_toArray, List.set_cons_zero, List.set_cons_succ]
                  refine wpAnyL_take (i := 3) (oi := _) (v := ?v16) rfl (by kernel_rfl) (fun _ _ _ h => h) (by assumption) (Or.inl ⟨by kernel_rfl, ?y16⟩) ?r16
                  case y16 => (intro w hSw; (try dsimp only at hSw); go_simp; all_goals with_reducible rfl)
                  try simp only [List.getElem_toArray, List.getElem_cons_zero, List.getElem_cons_succ, Act.put, List.setIfInBounds_toArray, List.set_cons_zero, List.set_cons_succ]
                  refine wpAnyL_take (i := 4) (oi := _) (v := ?v17) rfl (by kernel_rfl) (fun _ _ _ h => h) (by assumption) (Or.inl ⟨by kernel_rfl, ?y17⟩) ?r17
                  case y17 => (intro w hSw; (try dsimp only at hSw); go_simp; all_goals with_reducible rfl)
                  try simp only [List.getElem_toArray, List.getElem_cons_zero, List.getElem_cons_succ, Act.put, List.setIfInBounds_toArray, List.set_cons_zero, List.set_cons_succ]
                  refine wpAnyL_take (i := 5) (oi := _) (v := ?v18) rfl (by kernel_rfl) (fun _ _ _ h => h) (by assumption) (Or.inl ⟨by kernel_rfl, ?y18⟩) ?r18
                  case y18 => (intro w hSw; (try dsimp only at hSw); go_simp; all_goals with_reducible rfl)
                  try simp only [List.getElem_toArray, List.getElem_cons_zero, List.getElem_cons_succ, Act.put, List.setIfInBounds_toArray, List.set_cons_zero, List.set_cons_succ]
                  refine wpAnyL_take (i := 6) (oi := _) (v := ?v19) rfl (by kernel_rfl) (fun _ _ _ h => h) (by assumption) (Or.inl ⟨by kernel_rfl, ?y19⟩) ?r19
                  case y19 => (intro w hSw; (try dsimp only at hSw); go_simp; all_goals with_reducible rfl)
                  try simp only [List.getElem_toArray, List.getElem_cons_zero, List.getElem_cons_succ, Act.put, List.setIfInBounds_toArray, List.set_cons_zero, List.set_cons_succ]
                  refine wpAnyL_take (i := 7) (oi := _) (v := ?v20) rfl (by kernel_rfl) (fun _ _ _ h => h) (by assumption) (Or.inl ⟨by kernel_rfl, ?y20⟩) ?r20
                  case y20 => (intro w hSw; (try dsimp only at hSw); go_simp; all_goals with_reducible rfl)
                  try simp only [List.getElem_toArray, List.getElem_cons_zero, List.getElem_cons_succ, Act.put, List.setIfInBounds_toArray, List.set_cons_zero, List.set_cons_succ]
                  refine wpAnyL_take (i := 8) (oi := _) (v := ?v21) rfl (by kernel_rfl) (fun _ _ _ h => h) (by assumption) (Or.inl ⟨by kernel_rfl, ?y21⟩) ?r21
                  case y21 => (intro w hSw; (try dsimp only at hSw); go_simp; all_goals with_reducible rfl)
                  try simp only [List.getElem_toArray, List.getElem_cons_zero, List.getElem_cons_succ, Act.put, List.setIfInBounds_toArray, List.set_cons_zero, List.set_cons_succ]
                  refine wpAnyL_take (i := 9) (oi := _) (v := ?v22) rfl (by kernel_rfl) (fun _ _ _ h => h) (by assumption) (Or.inl ⟨by kernel_rfl, ?y22⟩) ?r22
                  case y22 => (intro w hSw; (try dsimp only at hSw); go_simp; all_goals with_reducible rfl)
                  try simp only [List.getElem_toArray, List.getElem_cons_zero, List.getElem_cons_succ, Act.put, List.setIfInBounds_toArray, List.set_cons_zero, List.set_cons_succ]
                  refine wpAnyL_behind (j := 10) (o := _) (by kernel_rfl) rfl (by rfl) (fun K hK => ?_)
                  (go_simp; go_at_call 19; refine (CL.out _ (HPd.out _)).mono ?_; rintro e w4 ⟨rfl, hb4⟩; have HB4 := Lib.hid hb4; clear hb4; skip)
                  refine hK _ _ ?_; clear hK K
                  try simp only [List.getElem_toArray, List.getElem_cons_zero, List.getElem_cons_succ, Act.put, List.setIfInBounds_toArray, List.set_cons_zero, List.set_cons_succ]
                  refine wpAnyL_last (j := 11) (o := _) (by kernel_rfl) rfl (by rfl) (by kernel_rfl) (fun K hK => ?_)
                  go_simp
                  (refine hK _ _ ?_; clear hK K)
                  try simp only [List.getElem_toArray, List.getElem_cons_zero, List.getElem_cons_succ, Act.put, List.setIfInBounds_toArray, List.set_cons_zero, List.set_cons_succ]
                  clear hget hget2 hwr hp1 hp2 hp3 hp4 hp5 hnat hsw hpos tq hex hex2 HCd
                  go_wp2_with fail
                  refine bodyPost_ret (v := .tuple #[.slice none 0 0, .int .i64 i, .int .i64 8]) (by simp [results, Tryz.results5, go_sem]) rfl ?_
                  exact ⟨rfl, (HPd.out _).bel.trans (HB4.out.mono (HPd.out 0).hs)⟩
                | none =>
                  have hRun3 : Hid (after (i + 1) ⟨ops, (labs ++ [nm]).zip (plcs ++ [ops.length]), gls⟩ (lns.drop (i + 1)) = R) := Lib.hid (by rw [← hRun2.out, hlv.out, hlb, hlk, zip_snoc hLP.out]; rfl)
                  have hFew2 : Hid (Few ⟨ops, (labs ++ [nm]).zip (plcs ++ [ops.length]), gls⟩ (i + 1)) := Lib.hid (by rw [zip_snoc hLP.out]; exact hFew.out.label nm)
                  have hGI2 : Hid (GoalsIn ⟨ops, (labs ++ [nm]).zip (plcs ++ [ops.length]), gls⟩) := Lib.hid hGI.out
                  have hLP2 : Hid ((labs ++ [nm]).length = (plcs ++ [ops.length]).length) := Lib.hid (by have := hLP.out; simp [this])
                  simp only [hlk] at CL
                  clear hRun2
                  go_wp2_with (go_at_call 18; refine (CW.out _).mono ?_; rintro e w2 ⟨vw, rfl, hOw, hb2⟩)
                  have HP2 := Lib.hid (hP.out.below hb2)
                  obtain ⟨Aw, cw, rfl⟩ := own_slice hOw
                  have HOw := Lib.hid hOw
                  clear hOw hb2
                  have HOw : Hid (w2.ownsRow wr.heap.size 9 1 (.slice Aw (([] : List (List UInt8)).length + 1) cw) (([] : List (List UInt8)).length + 1) ([w0].map fun l => Value.string ⟨l.toArray⟩)) := HOw
                  obtain ⟨gw, rfl⟩ := words_addr HOw.out
                  have c3 := words_at HOw.out 0 w0 rfl
                  go_quiet (fail)
                  have HPd := Lib.hid (fun n => HP2.out.below (below_drewN _ w2 n).drew)
                  have HCd := Lib.hid (fun n => words_at (own_belowI HOw.out (below_drewN _ w2 n).drew) 0 w0 rfl)
                  clear c3 HP2 HOw c1
                  go_wp2_with fail
                  refine wp_region_L (l := 10) (S := (fun W => W.cell? ⟨gw, 0, none⟩ = some (.string ⟨w0.toArray⟩))) (by kernel_rfl) ?_ (fun hHeld => ?_)
                  · ((try dsimp only); (exact HCd.out _))
                  refine wpAnyL_take (i := 0) (oi := _) (v := ?v25) rfl (by kernel_rfl) (fun _ _ _ h => h) (by assumption) (Or.inl ⟨by kernel_rfl, ?y25⟩) ?r25
                  case y25 => (intro w hSw; (try dsimp only at hSw); go_simp; all_goals with_reducible rfl)
                  try simp only [List.getElem_toArray, List.getElem_cons_zero, List.getElem_cons_succ, Act.put, List.setIfInBounds_toArray, List.set_cons_zero, List.set_cons_succ]
                  refine wpAnyL_take (i := 1) (oi := _) (v := ?v26) rfl (by kernel_rfl) (fun _ _ _ h => h) (by assumption) (Or.inl ⟨by kernel_rfl, ?y26⟩) ?r26
                  case y26 => (intro w hSw; (try dsimp only at hSw); go_simp; all_goals with_reducible rfl)
                  try simp only [List.getElem_toArray, List.getElem_cons_zero, List.getElem_cons_succ, Act.put, List.setIfInBounds_toArray, List.set_cons_zero, List.set_cons_succ]
                  refine wpAnyL_take (i := 2) (oi := _) (v := ?v27) rfl (by kernel_rfl) (fun _ _ _ h => h) (by assumption) (Or.inl ⟨by kernel_rfl, ?y27⟩) ?r27
                  case y27 => (intro w hSw; (try dsimp only at hSw); go_simp; all_goals with_reducible rfl)
                  try simp only [List.getElem_toArray, List.getElem_cons_zero, List.getElem_cons_succ, Act.put, List.setIfInBounds_toArray, List.set_cons_zero, List.set_cons_succ]
                  refine wpAnyL_take (i := 3) (oi := _) (v := ?v28) rfl (by kernel_rfl) (fun _ _ _ h => h) (by assumption) (Or.inl ⟨by kernel_rfl, ?y28⟩) ?r28
                  case y28 => (intro w hSw; (try dsimp only at hSw); go_simp; all_goals with_reducible rfl)
                  try simp only [List.getElem_toArray, List.getElem_cons_zero, List.getElem_cons_succ, Act.put, List.setIfInBounds_toArray, List.set_cons_zero, List.set_cons_succ]
                  refine wpAnyL_take (i := 4) (oi := _) (v := ?v29) rfl (by kernel_rfl) (fun _ _ _ h => h) (by assumption) (Or.inl ⟨by kernel_rfl, ?y29⟩) ?r29
                  case y29 => (intro w hSw; (try dsimp only at hSw); go_simp; all_goals with_reducible rfl)
                  try simp only [List.getElem_toArray, List.getElem_cons_zero, List.getElem_cons_succ, Act.put, List.setIfInBounds_toArray, List.set_cons_zero, List.set_cons_succ]
                  refine wpAnyL_take (i := 5) (oi := _) (v := ?v30) rfl (by kernel_rfl) (fun _ _ _ h => h) (by assumption) (Or.inl ⟨by kernel_rfl, ?y30⟩) ?r30
                  case y30 => (intro w hSw; (try dsimp only at hSw); go_simp; all_goals with_reducible rfl)
                  try simp only [List.getElem_toArray, List.getElem_cons_zero, List.getElem_cons_succ, Act.put, List.setIfInBounds_toArray, List.set_cons_zero, List.set_cons_succ]
                  refine wpAnyL_take (i := 6) (oi := _) (v := ?v31) rfl (by kernel_rfl) (fun _ _ _ h => h) (by assumption) (Or.inl ⟨by kernel_rfl, ?y31⟩) ?r31
                  case y31 => (intro w hSw; (try dsimp only at hSw); go_simp; all_goals with_reducible rfl)
                  try simp only [List.getElem_toArray, List.getElem_cons_zero, List.getElem_cons_succ, Act.put, List.setIfInBounds_toArray, List.set_cons_zero, List.set_cons_succ]
                  refine wpAnyL_take (i := 7) (oi := _) (v := ?v32) rfl (by kernel_rfl) (fun _ _ _ h => h) (by assumption) (Or.inl ⟨by kernel_rfl, ?y32⟩) ?r32
                  case y32 => (intro w hSw; (try dsimp only at hSw); go_simp; all_goals with_reducible rfl)
                  try simp only [List.getElem_toArray, List.getElem_cons_zero, List.getElem_cons_succ, Act.put, List.setIfInBounds_toArray, List.set_cons_zero, List.set_cons_succ]
                  refine wpAnyL_take (i := 8) (oi := _) (v := ?v33) rfl (by kernel_rfl) (fun _ _ _ h => h) (by assumption) (Or.inl ⟨by kernel_rfl, ?y33⟩) ?r33
                  case y33 => (intro w hSw; (try dsimp only at hSw); go_simp; all_goals with_reducible rfl)
                  try simp only [List.getElem_toArray, List.getElem_cons_zero, List.getElem_cons_succ, Act.put, List.setIfInBounds_toArray, List.set_cons_zero, List.set_cons_succ]
                  refine wpAnyL_take (i := 9) (oi := _) (v := ?v34) rfl (by kernel_rfl) (fun _ _ _ h => h) (by assumption) (Or.inl ⟨by kernel_rfl, ?y34⟩) ?r34
                  case y34 => (intro w hSw; (try dsimp only at hSw); go_simp; all_goals with_reducible rfl)
                  try simp only [List.getElem_toArray, List.getElem_cons_zero, List.getElem_cons_succ, Act.put, List.setIfInBounds_toArray, List.set_cons_zero, List.set_cons_succ]
                  refine wpAnyL_behind (j := 10) (o := _) (by kernel_rfl) rfl (by rfl) (fun K hK => ?_)
                  (go_simp; go_at_call 19; refine (CL.out _ (HPd.out _)).mono ?_; rintro e w4 ⟨⟨rfl, hr4⟩, hb4⟩; have HB4 := Lib.hid hb4; clear hb4; have HR4 := Lib.hid hr4; clear hr4)
                  refine hK _ _ ?_; clear hK K
                  try simp only [List.getElem_toArray, List.getElem_cons_zero, List.getElem_cons_succ, Act.put, List.setIfInBounds_toArray, List.set_cons_zero, List.set_cons_succ]
                  refine wpAnyL_last (j := 11) (o := _) (by kernel_rfl) rfl (by rfl) (by kernel_rfl) (fun K hK => ?_)
                  go_simp
                  (refine hK _ _ ?_; clear hK K)
                  try simp only [List.getElem_toArray, List.getElem_cons_zero, List.getElem_cons_succ, Act.put, List.setIfInBounds_toArray, List.set_cons_zero, List.set_cons_succ]
                  clear hget hget2 hwr hp1 hp2 hp3 hp4 hp5 hnat hsw hpos tq hex hex2 HCd
                  go_wp2_with fail
                  have HP5 := Lib.hid ((HPd.out _).turned HR4.out HB4.out)
                  clear HR4 HB4
                  go_wp2_with fail
                  go_roundw
                  case rel => exact ⟨i + 1, ops, labs ++ [nm], plcs ++ [ops.length], gls, by go_num, by omega, HP5, hLP2, hRun3, hFew2, hGI2⟩
                  case measure => simp [intOf]; omega
            · have tq : ((lc.toNat : Int) == 58) = false := by simp only [beq_eq_false_iff_ne]; intro e; exact hs (UInt8.toNat_inj.1 (by exact_mod_cast e))
              have hlv : Hid (lineV ⟨ops, labs.zip plcs, gls⟩ i [w0] = (match insV ⟨ops, labs.zip plcs, gls⟩ w0 [] i with | some r' => .inl r' | none => .inr 13)) := Lib.hid (by unfold lineV; dsimp only; rw [if_neg (fun h => hs (by have := h.2; rw [hlc] at this; injection this))]; rfl)
              clear hs hlc
              go_wp2_with (go_at_call 18; refine (CW.out _).mono ?_; rintro e w2 ⟨vw, rfl, hOw, hb2⟩)
              have HP2 := Lib.hid (hP.out.below hb2)
              obtain ⟨Aw, cw, rfl⟩ := own_slice hOw
              have HOw := Lib.hid hOw
              clear hOw hb2
              have HOw : Hid (w2.ownsRow wr.heap.size 9 1 (.slice Aw (([] : List (List UInt8)).length + 1) cw) (([] : List (List UInt8)).length + 1) ([w0].map fun l => Value.string ⟨l.toArray⟩)) := HOw
              obtain ⟨gw, rfl⟩ := words_addr HOw.out
              have c3 := words_at HOw.out 0 w0 rfl
              go_quiet (fail)
              have HPd := Lib.hid (fun n => HP2.out.below (below_drewN _ w2 n))
              have HOd := Lib.hid (fun n => own_belowI HOw.out (below_drewN _ w2 n))
              clear c3 hget hget2 hwr hp1 hp2 hp3 hp4 hp5 hnat hsw hpos tq HP2 HOw c1
              cases hins : insV ⟨ops, labs.zip plcs, gls⟩ w0 [] i with
              | none =>
                have HF : Hid (Sum.inr (i, 13) = R) := Lib.hid (by rw [← hRun2.out, hlv.out, hins])
                clear hRun2
                obtain rfl := HF.out
                clear HF
                go_wp2_with (first | (go_at_call 20; refine (CI.out _ _ _ _ (HPd.out _) (HOd.out _)).mono ?_; rw [hins]; rintro e w5 ⟨rfl, hfr⟩))
                refine bodyPost_ret (v := .tuple #[.slice none 0 0, .int .i64 i, .int .i64 13]) (by simp [results, Tryz.results5, go_sem]) rfl ?_
                exact ⟨rfl, (HPd.out _).bel.trans (hfr.mono (HPd.out 0).hs)⟩
              | some r2 =>
                obtain ⟨ops2, lb2, gls2⟩ := r2
                have hlb2 : lb2 = labs.zip plcs := insV_labels hins
                subst hlb2
                have hRun3 : Hid (after (i + 1) ⟨ops2, labs.zip plcs, gls2⟩ (lns.drop (i + 1)) = R) := Lib.hid (by rw [← hRun2.out, hlv.out, hins])
                have hFew2 := Lib.hid (hFew.out.ins hins)
                have hGI2 := Lib.hid (hGI.out.ins (by have := HLm.out.2; omega) hwl.out.1 hins)
                clear hRun2
                go_wp2_with (first | (go_at_call 20; refine (CI.out _ _ _ _ (HPd.out _) (HOd.out _)).mono ?_; rw [hins]; rintro e w5 ⟨⟨rfl, hrd⟩, hfr⟩; have HP5 := Lib.hid ((HPd.out _).turned hrd hfr); clear hrd hfr))
                go_roundw
                case rel => exact ⟨i + 1, ops2, labs, plcs, gls2, by go_num, by omega, HP5, hLP, hRun3, hFew2, hGI2⟩
                case measure => simp [intOf]; omega
          · have hr1 : 0 < rest.length := List.length_pos_iff.2 hre
            have hlv : Hid (lineV ⟨ops, labs.zip plcs, gls⟩ i (w0 :: rest) = (match insV ⟨ops, labs.zip plcs, gls⟩ w0 rest i with | some r' => .inl r' | none => .inr 13)) := Lib.hid (by unfold lineV; dsimp only; rw [if_neg (fun h => hre h.1)]; rfl)
            have tq : (((rest.length : Int) + 1) == 1) = false := by simp only [beq_eq_false_iff_ne]; omega
            have tq2 : (0 : Int) < (rest.length : Int) + 1 := by omega
            clear hre hne0
            go_wp2_with (go_at_call 18; refine (CW.out _).mono ?_; rintro e w2 ⟨vw, rfl, hOw, hb2⟩)
            have HP2 := Lib.hid (hP.out.below hb2)
            obtain ⟨Aw, cw, rfl⟩ := own_slice hOw
            have HOw := Lib.hid hOw
            clear hOw hb2
            have HOw : Hid (w2.ownsRow wr.heap.size 9 1 (.slice Aw (rest.length + 1) cw) (rest.length + 1) ((w0 :: rest).map fun l => Value.string ⟨l.toArray⟩)) := HOw
            go_quiet (fail)
            have HPd := Lib.hid (fun n => HP2.out.below (below_drewN _ w2 n))
            have HOd := Lib.hid (fun n => own_belowI HOw.out (below_drewN _ w2 n))
            clear tq HP2 HOw c1
            cases hins : insV ⟨ops, labs.zip plcs, gls⟩ w0 rest i with
            | none =>
              have HF : Hid (Sum.inr (i, 13) = R) := Lib.hid (by rw [← hRun2.out, hlv.out, hins])
              clear hRun2
              obtain rfl := HF.out
              clear HF
              go_wp2_with (first | (go_at_call 20; refine (CI.out _ _ _ _ (HPd.out _) (HOd.out _)).mono ?_; rw [hins]; rintro e w5 ⟨rfl, hfr⟩))
              refine bodyPost_ret (v := .tuple #[.slice none 0 0, .int .i64 i, .int .i64 13]) (by simp [results, Tryz.results5, go_sem]) rfl ?_
              exact ⟨rfl, (HPd.out _).bel.trans (hfr.mono (HPd.out 0).hs)⟩
            | some r2 =>
              obtain ⟨ops2, lb2, gls2⟩ := r2
              have hlb2 : lb2 = labs.zip plcs := insV_labels hins
              subst hlb2
              have hRun3 : Hid (after (i + 1) ⟨ops2, labs.zip plcs, gls2⟩ (lns.drop (i + 1)) = R) := Lib.hid (by rw [← hRun2.out, hlv.out, hins])
              have hFew2 := Lib.hid (hFew.out.ins hins)
              have hGI2 := Lib.hid (hGI.out.ins (by have := HLm.out.2; omega) hwl.out.1 hins)
              clear hRun2
              go_wp2_with (first | (go_at_call 20; refine (CI.out _ _ _ _ (HPd.out _) (HOd.out _)).mono ?_; rw [hins]; rintro e w5 ⟨⟨rfl, hrd⟩, hfr⟩; have HP5 := Lib.hid ((HPd.out _).turned hrd hfr); clear hrd hfr))
              go_roundw
              case rel => exact ⟨i + 1, ops2, labs, plcs, gls2, by go_num, by omega, HP5, hLP, hRun3, hFew2, hGI2⟩
              case measure => simp [intOf]; omega
      · obtain rfl : i = lns.length := by omega
        have hRun1 : Hid ((match goalsV (labs.zip plcs) ops gls with | .inl l => .inl l | .inr line => .inr (line, 9)) = R) := Lib.hid (by have h := hRun.out; rw [List.drop_length, after_nil] at h; exact h)
        obtain ⟨vo, vl, vp, vg, hrd⟩ := hP.out.rd
        obtain ⟨Al, cl, rfl⟩ := own_slice hrd.ops
        obtain ⟨Ag, cg, rfl⟩ := own_slice hrd.gls
        have hfn : Hid (gls.length ≤ 65537 ∧ labs.length ≤ 65537 ∧ (∀ p ∈ plcs, p ≤ 65537) ∧ ops.length ≤ 65537) := Lib.hid (by
          have h2 := hFew.out.goals
          have h3 := hFew.out.labels
          have h4 := zip_places hLP.out hFew.out.places
          have h5 := HLm.out.2
          have h6 := hFew.out.ops
          rw [labs_len hLP.out] at h3
          dsimp only at h2 h6
          exact ⟨by omega, by omega, fun p hp => by have := h4 p hp; omega, by omega⟩)
        obtain ⟨nops, hnops⟩ : ∃ nops, ops.length = nops := ⟨_, rfl⟩
        have hGI2 : Hid (∀ g ∈ gls, g.1 < nops ∧ g.2.1 ≤ 100000 ∧ g.2.2.length ≤ 65536) := Lib.hid (by rw [← hnops]; exact hGI.out)
        rw [hnops] at hrd hfn
        have HS0 : Hid (RgoSt H RB w nops labs plcs gls Al cl Ag cg vl vp ops wr) := Lib.hid ⟨hrd, hnops, hP.out.bel, hP.out.hs⟩
        clear hrd hRun hlt hP hnops hFew hGI
        go_wp2_with fail
        go_loopw [11] (fun ii wr => ∃ (k : Nat) (ops : List Cmd), ii = .int .i64 k ∧ k ≤ gls.length ∧ Hid (RgoSt H RB w nops labs plcs gls Al cl Ag cg vl vp ops wr) ∧ Hid ((match goalsV (labs.zip plcs) ops (gls.drop k) with | .inl l => .inl l | .inr line => .inr (line, 9)) = R)) (fun ii _ => gls.length - (intOf ii).toNat)
        case atStart => exact ⟨0, ops, rfl, Nat.zero_le _, HS0, Lib.hid (by rw [List.drop_zero]; exact hRun1.out)⟩
        case round =>
          clear HS0 hRun1
          obtain ⟨k, ops, rfl, hk, hS, hR⟩ := hrel
          have r3 := cell_of hS.out.rd.blk 3
          simp only [List.getElem?_toArray, List.getElem?_cons_zero, List.getElem?_cons_succ] at r3
          have p2 : (0 : Int) ≤ (k : Int) := Int.natCast_nonneg _
          by_cases hklt : k < gls.length
          · obtain ⟨g, hg⟩ : ∃ g, gls[k]? = some g := ⟨_, List.getElem?_eq_getElem hklt⟩
            have hdrop : gls.drop k = g :: gls.drop (k + 1) := by
              have := List.drop_eq_getElem_cons hklt
              rw [List.getElem?_eq_getElem hklt] at hg
              injection hg with hg
              rw [this, hg]
            have hgm := hGI2.out g (List.mem_of_getElem? hg)
            obtain ⟨gi, gln, gw⟩ := g
            obtain ⟨gb, hAg, g0, g1, g2⟩ := hS.out.goal hg
            subst hAg
            dsimp only at hgm g0 g1 g2
            have p1 : (k : Int) < (gls.length : Int) := by omega
            have hR1 := Lib.hid hR.out
            rw [hdrop] at hR1
            have CPl := Lib.hid (rplace_any RB ops labs plcs gls (.slice Al nops cl) vl vp (.slice (some ⟨gb, 0, none⟩) gls.length cg) gw wr hS.out.rd hLP.out (by have := hfn.out; omega) (fun p hp => by have := hfn.out.2.2.1 p hp; omega))
            clear hR hdrop hg
            cases hlk : lookV gw (labs.zip plcs) with
            | none =>
              rw [hlk] at CPl
              dsimp only at CPl
              have HF : Hid (Sum.inr (gln, 9) = R) := Lib.hid (by have h := hR1.out; rw [goals_none hlk] at h; exact h)
              clear hR1
              obtain rfl := HF.out
              clear HF
              go_wp2_with (go_at_call 21; refine CPl.out.mono ?_; rintro e w4 ⟨rfl, rfl⟩)
              go_quiet (fail)
              go_wp2_with fail
              refine bodyPost_ret (v := .tuple #[.slice none 0 0, .int .i64 gln, .int .i64 9]) (by simp [results, Tryz.results5, go_sem]) rfl ?_
              exact ⟨rfl, hS.out.bel.trans (below_drewN _ _ _)⟩
            | some p0 =>
              rw [hlk] at CPl
              dsimp only at CPl
              have hR2 : Hid ((match goalsV (labs.zip plcs) (setN ops gi p0) (gls.drop (k + 1)) with | .inl l => .inl l | .inr line => .inr (line, 9)) = R) := Lib.hid (by have h := hR1.out; rw [goals_some hlk] at h; exact h)
              clear hR1
              have hgm1 := hgm.1
              have HSd := Lib.hid (hS.out.below (Below.refl _ _).drew)
              obtain ⟨ob, hob, f5, ⟨u5, c5⟩, hS6⟩ := HSd.out.store (p := p0) hgm1
              subst hob
              have HF9 : Hid (wr.drew.frozen? ⟨ob, gi * 6 + 5, none⟩ = false ∧ wr.drew.cell? ⟨ob, gi * 6 + 5, none⟩ = some (.int .i64 u5)) := Lib.hid ⟨f5, c5⟩
              have HS6 := Lib.hid hS6
              have HSS : Hid (RgS2 RB gb (k * 3) (.slice (some ⟨ob, 0, none⟩) nops cl) (.slice (some ⟨gb, 0, none⟩) gls.length cg) gi wr.drew) := Lib.hid ⟨cell_of HSd.out.rd.blk 0, cell_of HSd.out.rd.blk 3, g0⟩
              have p6 : (gi : Int) < (nops : Int) := by omega
              have p7 : (0 : Int) ≤ (gi : Int) := Int.natCast_nonneg _
              have p8 : (0 : Int) ≤ (p0 : Int) := Int.natCast_nonneg _
              have hfn1 := hfn.out.1
              clear f5 c5 hS6 hgm HSd hlk
              go_wp2_with (go_at_call 21; refine CPl.out.mono ?_; rintro e w4 ⟨rfl, rfl⟩)
              clear g0 g1 g2 r3
              refine wp_region_L (l := 15) (S := (RgS2 RB gb (k * 3) (.slice (some ⟨ob, 0, none⟩) nops cl) (.slice (some ⟨gb, 0, none⟩) gls.length cg) gi)) (by kernel_rfl) ?_ (fun hHeld => ?_)
              · ((try dsimp only); (exact HSS.out))
              refine wpAnyL_take (i := 0) (oi := _) (v := ?v37) rfl (by kernel_rfl) (fun _ _ _ h => h) (by assumption) (Or.inl ⟨by kernel_rfl, ?y37⟩) ?r37
              case y37 => (intro w hSw; (try dsimp only at hSw); go_simp; all_goals with_reducible rfl)
              try simp only [List.getElem_toArray, List.getElem_cons_zero, List.getElem_cons_succ, Act.put, List.setIfInBounds_toArray, List.set_cons_zero, List.set_cons_succ]
              refine wpAnyL_take (i := 1) (oi := _) (v := ?v38) rfl (by kernel_rfl) (fun _ _ _ h => h) (by assumption) (Or.inl ⟨by kernel_rfl, ?y38⟩) ?r38
              case y38 => (intro w hSw; (try dsimp only at hSw); go_simp; all_goals with_reducible rfl)
              try simp only [List.getElem_toArray, List.getElem_cons_zero, List.getElem_cons_succ, Act.put, List.setIfInBounds_toArray, List.set_cons_zero, List.set_cons_succ]
              refine wpAnyL_take (i := 2) (oi := _) (v := ?v39) rfl (by kernel_rfl) (fun _ _ _ h => h) (by assumption) (Or.inl ⟨by kernel_rfl, ?y39⟩) ?r39
              case y39 => (intro w hSw; (try dsimp only at hSw); go_simp; all_goals with_reducible rfl)
              try simp only [List.getElem_toArray, List.getElem_cons_zero, List.getElem_cons_succ, Act.put, List.setIfInBounds_toArray, List.set_cons_zero, List.set_cons_succ]
              refine wpAnyL_take (i := 3) (oi := _) (v := ?v40) rfl (by kernel_rfl) (fun _ _ _ h => h) (by assumption) (Or.inl ⟨by kernel_rfl, ?y40⟩) ?r40
              case y40 => (intro w hSw; (try dsimp only at hSw); go_simp; all_goals with_reducible rfl)
              try simp only [List.getElem_toArray, List.getElem_cons_zero, List.getElem_cons_succ, Act.put, List.setIfInBounds_toArray, List.set_cons_zero, List.set_cons_succ]
              refine wpAnyL_take (i := 4) (oi := _) (v := ?v41) rfl (by kernel_rfl) (fun _ _ _ h => h) (by assumption) (Or.inl ⟨by kernel_rfl, ?y41⟩) ?r41
              case y41 => (intro w hSw; (try dsimp only at hSw); go_simp; all_goals with_reducible rfl)
              try simp only [List.getElem_toArray, List.getElem_cons_zero, List.getElem_cons_succ, Act.put, List.setIfInBounds_toArray, List.set_cons_zero, List.set_cons_succ]
              refine wpAnyL_take (i := 5) (oi := _) (v := ?v42) rfl (by kernel_rfl) (fun _ _ _ h => h) (by assumption) (Or.inl ⟨by kernel_rfl, ?y42⟩) ?r42
              case y42 => (intro w hSw; (try dsimp only at hSw); go_simp; all_goals with_reducible rfl)
              try simp only [List.getElem_toArray, List.getElem_cons_zero, List.getElem_cons_succ, Act.put, List.setIfInBounds_toArray, List.set_cons_zero, List.set_cons_succ]
              refine wpAnyL_take (i := 6) (oi := _) (v := ?v43) rfl (by kernel_rfl) (fun _ _ _ h => h) (by assumption) (Or.inl ⟨by kernel_rfl, ?y43⟩) ?r43
              case y43 => (intro w hSw; (try dsimp only at hSw); go_simp; all_goals with_reducible rfl)
              try simp only [List.getElem_toArray, List.getElem_cons_zero, List.getElem_cons_succ, Act.put, List.setIfInBounds_toArray, List.set_cons_zero, List.set_cons_succ]
              refine wpAnyL_take (i := 7) (oi := _) (v := ?v44) rfl (by kernel_rfl) (fun _ _ _ h => h) (by assumption) (Or.inl ⟨by kernel_rfl, ?y44⟩) ?r44
              case y44 => (intro w hSw; (try dsimp only at hSw); go_simp; all_goals with_reducible rfl)
              try simp only [List.getElem_toArray, List.getElem_cons_zero, List.getElem_cons_succ, Act.put, List.setIfInBounds_toArray, List.set_cons_zero, List.set_cons_succ]
              refine wpAnyL_take (i := 8) (oi := _) (v := ?v45) rfl (by kernel_rfl) (fun _ _ _ h => h) (by assumption) (Or.inl ⟨by kernel_rfl, ?y45⟩) ?r45
              case y45 => (intro w hSw; (try dsimp only at hSw); go_simp; all_goals with_reducible rfl)
              try simp only [List.getElem_toArray, List.getElem_cons_zero, List.getElem_cons_succ, Act.put, List.setIfInBounds_toArray, List.set_cons_zero, List.set_cons_succ]
              refine wpAnyL_take (i := 9) (oi := _) (v := ?v46) rfl (by kernel_rfl) (fun _ _ _ h => h) (by assumption) (Or.inl ⟨by kernel_rfl, ?y46⟩) ?r46
              case y46 => (intro w hSw; (try dsimp only at hSw); go_simp; all_goals with_reducible rfl)
              try simp only [List.getElem_toArray, List.getElem_cons_zero, List.getElem_cons_succ, Act.put, List.setIfInBounds_toArray, List.set_cons_zero, List.set_cons_succ]
              refine wpAnyL_take (i := 10) (oi := _) (v := ?v47) rfl (by kernel_rfl) (fun _ _ _ h => h) (by assumption) (Or.inl ⟨by kernel_rfl, ?y47⟩) ?r47
              case y47 => (intro w hSw; (try dsimp only at hSw); go_simp; all_goals with_reducible rfl)
              try simp only [List.getElem_toArray, List.getElem_cons_zero, List.getElem_cons_succ, Act.put, List.setIfInBounds_toArray, List.set_cons_zero, List.set_cons_succ]
              refine wpAnyL_take (i := 11) (oi := _) (v := ?v48) rfl (by kernel_rfl) (fun _ _ _ h => h) (by assumption) (Or.inl ⟨by kernel_rfl, ?y48⟩) ?r48
              case y48 => (intro w hSw; (try dsimp only at hSw); go_simp; all_goals with_reducible rfl)
              try simp only [List.getElem_toArray, List.getElem_cons_zero, List.getElem_cons_succ, Act.put, List.setIfInBounds_toArray, List.set_cons_zero, List.set_cons_succ]
              refine wpAnyL_take (i := 12) (oi := _) (v := ?v49) rfl (by kernel_rfl) (fun _ _ _ h => h) (by assumption) (Or.inl ⟨by kernel_rfl, ?y49⟩) ?r49
              case y49 => (intro w hSw; (try dsimp only at hSw); go_simp; all_goals with_reducible rfl)
              try simp only [List.getElem_toArray, List.getElem_cons_zero, List.getElem_cons_succ, Act.put, List.setIfInBounds_toArray, List.set_cons_zero, List.set_cons_succ]
              refine wpAnyL_take (i := 13) (oi := _) (v := ?v50) rfl (by kernel_rfl) (fun _ _ _ h => h) (by assumption) (Or.inl ⟨by kernel_rfl, ?y50⟩) ?r50
              case y50 => (intro w hSw; (try dsimp only at hSw); go_simp; all_goals with_reducible rfl)
              try simp only [List.getElem_toArray, List.getElem_cons_zero, List.getElem_cons_succ, Act.put, List.setIfInBounds_toArray, List.set_cons_zero, List.set_cons_succ]
              refine wpAnyL_take (i := 14) (oi := _) (v := ?v51) rfl (by kernel_rfl) (fun _ _ _ h => h) (by assumption) (Or.inl ⟨by kernel_rfl, ?y51⟩) ?r51
              case y51 => (intro w hSw; (try dsimp only at hSw); go_simp; all_goals with_reducible rfl)
              try simp only [List.getElem_toArray, List.getElem_cons_zero, List.getElem_cons_succ, Act.put, List.setIfInBounds_toArray, List.set_cons_zero, List.set_cons_succ]
              refine wpAnyL_last (j := 15) (o := _) (by kernel_rfl) rfl (by rfl) (by kernel_rfl) (fun K hK => ?_)
              (clear hHeld; obtain ⟨hf9, hu9⟩ := HF9.out; go_simp; clear hf9 hu9)
              (refine hK _ _ ?_; clear hK K)
              try simp only [List.getElem_toArray, List.getElem_cons_zero, List.getElem_cons_succ, Act.put, List.setIfInBounds_toArray, List.set_cons_zero, List.set_cons_succ]
              clear HSS HF9
              go_wp2_with fail
              go_roundw
              case rel => exact ⟨k + 1, _, by go_num, by omega, HS6, hR2⟩
              case measure => simp [intOf]; omega
          · obtain rfl : k = gls.length := by omega
            have HF : Hid (Sum.inl ops = R) := Lib.hid (by have h := hR.out; rw [List.drop_length, goalsV] at h; exact h)
            obtain rfl := HF.out
            clear HF hR
            have r0 := cell_of hS.out.rd.blk 0
            simp only [List.getElem?_toArray, List.getElem?_cons_zero, List.getElem?_cons_succ] at r0
            go_wp2_with fail
            refine bodyPost_ret (v := .tuple #[.slice Al nops cl, .int .i64 0, .int .i64 0]) (by simp [results, Tryz.results5, go_sem]) rfl ?_
            exact ⟨⟨_, rfl, own_mono (by have := hS.out.rd.ops; rw [hS.out.len] at this ⊢; exact this) hS.out.hs⟩, hS.out.bel⟩
end Go.Proofs.YtkkcngppmhebbaaGreatDoor
