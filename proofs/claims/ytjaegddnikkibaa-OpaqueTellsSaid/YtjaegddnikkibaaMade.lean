/-
  opaque.made walked: for each word the attempts that have made it.
-/
import Derived.Test.YtjaegddnikkibaaGroups
import Derived.Test.YtjaegddnikkibaaOwnPlain
import Derived.Test.YtjaegddnikkibaaHeapDo
import Derived.Test.YtjaegddnikkibaaOrder
import Derived.Test.YtjaegddnikkibaaRegion
import Derived.Deep.AppendLies
import Derived.WideMake
set_option linter.unusedVariables false
set_option linter.unusedSimpArgs false
namespace Go.Proofs.Ytjaegddnikkibaa
open Go.RowKit Go.Sort Go.Maps

theorem zeroInts (w : World) : (zeroValue 28).run Try.prog w = .ok (.slice none 0 0) w := by kernel_rfl
theorem madeGo_step (k : Nat) (F : Int → List Int) {l : List Att} (h : k < l.length) : madeGo k (l.drop k) F = madeGo (k + 1) (l.drop (k + 1)) (attStep (k : Int) F l[k].evs) := by
  rw [List.drop_eq_getElem_cons h]; rfl
theorem attStep_step (n : Int) (F : Int → List Int) {es : List Ev} {k : Nat} (h : k < es.length) : attStep n F (es.drop k) = attStep n (evStep n F es[k]) (es.drop (k + 1)) := by
  rw [List.drop_eq_getElem_cons h]; rfl
theorem total_step {l : List Att} {k : Nat} (h : k < l.length) : totalSize (l.drop k) = 1 + l[k].evs.length + totalSize (l.drop (k + 1)) := by
  rw [List.drop_eq_getElem_cons h]; rfl

theorem evsLe : ∀ (l : List Att) (x : Att), x ∈ l → x.evs.length ≤ totalSize l
  | [], _, h => by cases h
  | y :: r, x, h => by
    unfold totalSize
    rcases List.mem_cons.1 h with rfl | h
    · omega
    · have := evsLe r x h; omega
theorem grownAlloc (w : World) (o : Obj) (row : Option Nat) : w.grownBy (w.alloc o).drew row := ⟨rfl, rfl, rfl, by simp, fun i hi _ => Below.heap_alloc w o i hi⟩

set_option maxHeartbeats 4000000 in
set_option maxRecDepth 100000 in
theorem made_any (A : Option Addr) (c : Nat) (l : List Att) (hn : l.length ≤ 1048576) (hts : totalSize l ≤ 1048576) (hO : ∀ x ∈ l, x.Ok ∧ ∀ e ∈ x.evs, evB x.th e = true) (w : World) (ha : AttsAt w w.heap.size A l) :
    Calls Try.prog 46 #[.slice A l.length c] w fun e w' =>
      e = .returned (.map (some w.heap.size)) ∧ (∃ n, n ≤ 100000000 ∧ GroupsAt Try.prog 2 3 w' w.heap.size n (madeV l)) ∧ Below w.heap.size w w' := by
  have HA := Lib.hid (fun W (h : Below w.heap.size w W) => ha.keep h (Nat.le_refl _))
  have HO := Lib.hid hO
  have HV : Hid (madeGo 0 (l.drop 0) (fun _ => []) = madeV l) := Lib.hid rfl
  have HT : 0 + 65 * totalSize (l.drop 0) ≤ 68157440 := by rw [List.drop_zero]; omega
  have HTL := Lib.hid (fun x hx => Nat.le_trans (evsLe l x hx) hts)
  clear ha hO hts
  obtain ⟨i0, hi0, hz0, hz1, hz2⟩ := info_parts info_int
  generalize madeV l = res at *
  have hmk := run_makeMap_plain (P := Try.prog) w 75
  go_enter Try.func46, Try.ntmps46
  go_wp2_with fail
  clear hmk
  go_loopw [12] (fun i wr => ∃ (k n : Nat) (F : Int → List Int), i = .int .i64 k ∧ k ≤ l.length ∧ n + 65 * totalSize (l.drop k) ≤ 68157440 ∧ Hid (madeGo k (l.drop k) F = res) ∧ Hid (GroupsAt Try.prog 2 3 wr w.heap.size n F) ∧ Hid (Below w.heap.size w wr)) (fun i _ => l.length - (intOf i).toNat)
  case atStart => exact ⟨0, 0, _, rfl, Nat.zero_le _, HT, HV, Lib.hid (GroupsAt.made _ _ _ w), Lib.hid ((Below.refl _ _).alloc (Nat.le_refl _) _)⟩
  case round =>
    clear HV HT
    obtain ⟨k, n, F, rfl, hk, hB, hV, hG, hW⟩ := hrel
    by_cases hlt : k < l.length
    · obtain ⟨b, off, rfl, hbl, hc⟩ := (HA.out _ hW.out).row (by rintro rfl; simp at hlt)
      obtain ⟨c0, c1, c2, c3, c4, c5, c6, c7⟩ := hc k _ (List.getElem?_eq_getElem hlt)
      have hev := Lib.hid (fun W (h : Below w.heap.size w W) => (HA.out _ h).evs _ (List.getElem_mem hlt))
      obtain ⟨hxo, hxe⟩ := HO.out _ (List.getElem_mem hlt)
      have hel := Lib.hid (fun e he => (⟨hxo.evs e he, hxe e he⟩ : e.Ok ∧ evB l[k].th e = true))
      have hts := total_step hlt
      have hxl := HTL.out _ (List.getElem_mem hlt)
      have hst : Hid (madeGo (k + 1) (l.drop (k + 1)) (attStep (k : Int) F (l[k].evs.drop 0)) = res) := Lib.hid (by rw [List.drop_zero, ← madeGo_step k F hlt]; exact hV.out)
      clear hc hxo hxe hV
      generalize l[k] = x at *
      obtain ⟨th, kd, bg, en, ck, pl, wt, dA, dc, evs⟩ := x
      dsimp only at *
      have hB0 : n + 65 * (evs.length - 0) + 65 * totalSize (l.drop (k + 1)) ≤ 68157440 := by omega
      generalize hTR : totalSize (l.drop (k + 1)) = TR at *
      have HTR := Lib.hid hTR
      clear hB hts hTR
      obtain ⟨w0, hw0⟩ : ∃ w0, wr.alloc (.cells #[.int .i64 th, .int .u8 kd, .int .i64 bg, .int .i64 en, .int .i64 ck, .int .i64 pl, .bool wt, .slice dA evs.length dc] 35 (0, 0)) = w0 := ⟨_, rfl⟩
      have hG0 : Hid (GroupsAt Try.prog 2 3 w0 w.heap.size n F) := Lib.hid (by rw [← hw0]; exact hG.out.alloc _)
      have hW0 : Hid (Below w.heap.size w w0) := Lib.hid (by rw [← hw0]; exact hW.out.alloc hW.out.size _)
      have d7 : w0.cell? ⟨wr.heap.size, 7, none⟩ = some (.slice dA evs.length dc) := by rw [← hw0]; simp
      clear hG hW
      go_wp2_with fail
      clear c0 c1 c2 c3 c4 c5 c6 c7 hw0 d7
      obtain ⟨wo, rfl⟩ : ∃ wo : World, wo = wr := ⟨_, rfl⟩
      go_loopw [20] (fun i wr => ∃ (j n : Nat) (F : Int → List Int), i = .int .i64 j ∧ j ≤ evs.length ∧ n + 65 * (evs.length - j) + 65 * TR ≤ 68157440 ∧ Hid (madeGo (k + 1) (l.drop (k + 1)) (attStep (k : Int) F (evs.drop j)) = res) ∧ Hid (GroupsAt Try.prog 2 3 wr w.heap.size n F) ∧ Hid (Below w.heap.size w wr)) (fun i _ => evs.length - (intOf i).toNat)
      case atStart => exact ⟨0, n, F, rfl, Nat.zero_le _, hB0, hst, hG0, hW0⟩
      case round =>
        clear hB0 hst hG0 hW0
        obtain ⟨j, n, F, rfl, hj, hB, hV, hG, hW⟩ := hrel
        by_cases hjl : j < evs.length
        · obtain ⟨eb, eoff, rfl, -, hec⟩ := hev.out _ hW.out (by rintro rfl; simp at hjl)
          obtain ⟨e0, e1, e2, e3⟩ := hec j _ (List.getElem?_eq_getElem hjl)
          obtain ⟨hEo, hEb⟩ := hel.out _ (List.getElem_mem hjl)
          have hst : Hid (madeGo (k + 1) (l.drop (k + 1)) (attStep (k : Int) (evStep (k : Int) F evs[j]) (evs.drop (j + 1))) = res) := Lib.hid (by rw [← attStep_step (k : Int) F hjl]; exact hV.out)
          clear hec hV
          generalize evs[j] = ev at *
          obtain ⟨eth, ekd, a, bv⟩ := ev
          have hev2 := evB_iff.1 hEb
          clear hEo hEb
          dsimp only at *
          obtain ⟨-, ha0, ha1, hkk⟩ := hev2
          by_cases h6 : ekd = 6
          · subst h6
            obtain ⟨b0, b1, b2⟩ : 0 ≤ bv ∧ bv ≤ 64 ∧ a + bv ≤ 262144 := by omega
            have hst2 : Hid (madeGo (k + 1) (l.drop (k + 1)) (attStep (k : Int) (fun y => if a ≤ y ∧ y < a + bv then F y ++ [(k : Int)] else F y) (evs.drop (j + 1))) = res) := Lib.hid hst.out
            obtain ⟨w0, hw0⟩ : ∃ w0, wr.alloc (.cells #[.int .i64 eth, .int .u8 6, .int .i64 a, .int .i64 bv] 38 (0, 0)) = w0 := ⟨_, rfl⟩
            obtain ⟨V, hVV⟩ : ∃ V, wr.heap.size = V := ⟨_, rfl⟩
            have hG0 : Hid (GroupsAt Try.prog 2 3 w0 w.heap.size n (fun y => if a ≤ y ∧ y < a + ((0 : Nat) : Int) then F y ++ [(k : Int)] else F y)) := Lib.hid (by rw [← hw0]; exact (hG.out.alloc _).congr fun y => by rw [if_neg (by omega)])
            have hW0 : Hid (Below w.heap.size w w0) := Lib.hid (by rw [← hw0]; exact hW.out.alloc hW.out.size _)
            have d1 : w0.cell? ⟨V, 1, none⟩ = some (.int .u8 6) := by rw [← hw0, ← hVV]; simp
            have d3 : w0.cell? ⟨V, 3, none⟩ = some (.int .i64 bv) := by rw [← hw0, ← hVV]; simp
            have hb0 : Hid (w0.heap[V]? = some (.cells #[.int .i64 eth, .int .u8 6, .int .i64 a, .int .i64 bv] 38 (0, 0))) := Lib.hid (by rw [← hw0, ← hVV]; exact heap_alloc_new _ _)
            have hB0 : n + (65 - 0) + 65 * (evs.length - (j + 1)) + 65 * TR ≤ 68157440 := by omega
            clear hG hW hB hst
            go_wp2_with fail
            clear e0 e1 e2 e3 d1 d3 hw0 hVV
            obtain ⟨wo2, rfl⟩ : ∃ wo : World, wo = wr := ⟨_, rfl⟩
            go_loopw [29] (fun i wr => ∃ (q n : Nat), i = .int .i64 q ∧ (q : Int) ≤ bv ∧ n + (65 - q) + 65 * (evs.length - (j + 1)) + 65 * TR ≤ 68157440 ∧ Hid (GroupsAt Try.prog 2 3 wr w.heap.size n (fun y => if a ≤ y ∧ y < a + (q : Int) then F y ++ [(k : Int)] else F y)) ∧ Hid (Below w.heap.size w wr) ∧ Hid (wr.heap[V]? = some (.cells #[.int .i64 eth, .int .u8 6, .int .i64 a, .int .i64 bv] 38 (0, 0)))) (fun i _ => bv.toNat - (intOf i).toNat)
            case atStart => exact ⟨0, n, rfl, by omega, hB0, hG0, hW0, hb0⟩
            case round =>
              clear hB0 hG0 hW0 hb0
              obtain ⟨q, n, rfl, hq, hB, hG, hW, hb⟩ := hrel
              by_cases hqb : (q : Int) < bv
              · have p1 : (0 : Int) ≤ (q : Int) := Int.natCast_nonneg _
                have hwr : IntKind.i64.wrap (a + (q : Int)) = a + (q : Int) := by rw [IntKind.wrap_i64]; omega
                have lV : V < wr.heap.size := (Array.getElem?_eq_some_iff.1 hb.out).1
                have lM := hG.out.lt
                have hVM := hG.out.apart hb.out
                obtain ⟨v, hsame, hown, hlen, hback⟩ := hG.out.look (t := 75) (E := 28) (by kernel_rfl) (by kernel_rfl) zeroInts (by unfold maxLen; omega) (x := a + (q : Int)) (wf64 ⟨by omega, by omega⟩)
                have hva := own_apart hown hb.out (by decide)
                have hmv : some w.heap.size ≠ v.ownBlock := fun e => by
                  have := (hown.1.lt _ e.symm).1
                  omega
                have hFq : (if a ≤ a + (q : Int) ∧ a + (q : Int) < a + (q : Int) then F (a + (q : Int)) ++ [(k : Int)] else F (a + (q : Int))) = F (a + (q : Int)) := if_neg (by omega)
                rw [hFq] at hown hlen
                generalize hzs : F (a + (q : Int)) = zs at *
                have hcV : ∀ W : World, W.heap[V]? = wr.heap[V]? → W.cell? ⟨V, 2, none⟩ = some (.int .i64 a) := fun W h => (World.cell?_of_block (w := wr) (a := ⟨V, 2, none⟩) h).trans (by simp [World.cell?, hb.out])
                have HS := Lib.hid (fun W (h1 : W.heap[V]? = wr.heap[V]?) (h2 : W.heap[w.heap.size]? = wr.heap[w.heap.size]?) => And.intro (hcV W h1) (hsame W h2))
                have HOWN := Lib.hid hown
                have HBACK := Lib.hid hback
                have HLEN := hlen
                clear hcV hsame hown hback hlen hFq
                go_wp2_with fail
                refine wp_region_L (l := 14) (S := (fun W => W.cell? ⟨V, 2, none⟩ = some (.int .i64 a) ∧ (Instr.lookup 75 (.map (some w.heap.size)) (.int .i64 (a + (q : Int))) false).run Try.prog W = .ok v W)) (by kernel_rfl) ?_ (fun hHeld => ?_)
                · ((try dsimp only); (exact HS.out _ rfl rfl))
                refine wpAnyL_take (i := 0) (oi := _) (v := ?v1) rfl (by kernel_rfl) (fun _ _ _ h => h) (by assumption) (Or.inl ⟨by kernel_rfl, ?y1⟩) ?r1
                case y1 => (intro w hSw; (try dsimp only at hSw); go_simp; all_goals with_reducible rfl)
                try simp only [Act.put, List.setIfInBounds_toArray, List.set_cons_zero, List.set_cons_succ]
                refine wpAnyL_take (i := 1) (oi := _) (v := ?v2) rfl (by kernel_rfl) (fun _ _ _ h => h) (by assumption) (Or.inl ⟨by kernel_rfl, ?y2⟩) ?r2
                case y2 => (intro w hSw; (try dsimp only at hSw); go_simp; all_goals with_reducible rfl)
                try simp only [Act.put, List.setIfInBounds_toArray, List.set_cons_zero, List.set_cons_succ]
                refine wpAnyL_take (i := 2) (oi := _) (v := ?v3) rfl (by kernel_rfl) (fun _ _ _ h => h) (by assumption) (Or.inl ⟨by kernel_rfl, ?y3⟩) ?r3
                case y3 => (intro w hSw; (try dsimp only at hSw); go_simp; all_goals with_reducible rfl)
                try simp only [Act.put, List.setIfInBounds_toArray, List.set_cons_zero, List.set_cons_succ]
                refine wpAnyL_take (i := 3) (oi := _) (v := ?v4) rfl (by kernel_rfl) (fun _ _ _ h => h) (by assumption) (Or.inl ⟨by kernel_rfl, ?y4⟩) ?r4
                case y4 => (intro w hSw; (try dsimp only at hSw); go_simp; all_goals with_reducible rfl)
                try simp only [Act.put, List.setIfInBounds_toArray, List.set_cons_zero, List.set_cons_succ]
                refine wpAnyL_take (i := 4) (oi := _) (v := ?v5) rfl (by kernel_rfl) (fun _ _ _ h => h) (by assumption) (Or.inl ⟨by kernel_rfl, ?y5⟩) ?r5
                case y5 => (intro w hSw; (try dsimp only at hSw); go_simp; all_goals with_reducible rfl)
                try simp only [Act.put, List.setIfInBounds_toArray, List.set_cons_zero, List.set_cons_succ]
                refine wpAnyL_take (i := 5) (oi := _) (v := ?v6) rfl (by kernel_rfl) (fun _ _ _ h => h) (by assumption) (Or.inl ⟨by kernel_rfl, ?y6⟩) ?r6
                case y6 => (intro w hSw; (try dsimp only at hSw); go_simp; all_goals with_reducible rfl)
                try simp only [Act.put, List.setIfInBounds_toArray, List.set_cons_zero, List.set_cons_succ]
                refine wpAnyL_take (i := 6) (oi := _) (v := ?v7) rfl (by kernel_rfl) (fun _ _ _ h => h) (by assumption) (Or.inl ⟨by kernel_rfl, ?y7⟩) ?r7
                case y7 => (intro w hSw; (try dsimp only at hSw); go_simp; all_goals with_reducible rfl)
                try simp only [Act.put, List.setIfInBounds_toArray, List.set_cons_zero, List.set_cons_succ]
                refine wpAnyL_take (i := 7) (oi := _) (v := ?v8) rfl (by kernel_rfl) (fun _ _ _ h => h) (by assumption) (Or.inl ⟨by kernel_rfl, ?y8⟩) ?r8
                case y8 => (intro w hSw; (try dsimp only at hSw); go_simp; all_goals with_reducible rfl)
                try simp only [Act.put, List.setIfInBounds_toArray, List.set_cons_zero, List.set_cons_succ]
                refine wpAnyL_take (i := 8) (oi := _) (v := ?v9) rfl (by kernel_rfl) (fun _ _ _ h => h) (by assumption) (Or.inl ⟨by kernel_rfl, ?y9⟩) ?r9
                case y9 => (intro w hSw; (try dsimp only at hSw); go_simp; all_goals with_reducible rfl)
                try simp only [Act.put, List.setIfInBounds_toArray, List.set_cons_zero, List.set_cons_succ]
                refine wpAnyL_take (i := 9) (oi := _) (v := ?v10) rfl (by kernel_rfl) (fun _ _ _ h => h) (by assumption) (Or.inl ⟨by kernel_rfl, ?y10⟩) ?r10
                case y10 => (intro w hSw; (try dsimp only at hSw); go_simp; all_goals with_reducible rfl)
                try simp only [Act.put, List.setIfInBounds_toArray, List.set_cons_zero, List.set_cons_succ]
                refine wpAnyL_take (i := 10) (oi := _) (v := ?v11) rfl (by kernel_rfl) (fun _ _ _ h => h) (by assumption) (Or.inl ⟨by kernel_rfl, ?y11⟩) ?r11
                case y11 => (intro w hSw; (try dsimp only at hSw); go_simp; all_goals with_reducible rfl)
                try simp only [Act.put, List.setIfInBounds_toArray, List.set_cons_zero, List.set_cons_succ]
                refine wpAnyL_take (i := 11) (oi := _) (v := ?v12) rfl (by kernel_rfl) (fun _ _ _ h => h) (by assumption) (Or.inl ⟨by kernel_rfl, ?y12⟩) ?r12
                case y12 => (intro w hSw; (try dsimp only at hSw); go_simp; all_goals with_reducible rfl)
                try simp only [Act.put, List.setIfInBounds_toArray, List.set_cons_zero, List.set_cons_succ]
                refine wpAnyL_step (j := 12) (o := _) (by kernel_rfl) rfl (fun K hK => ?_)
                go_simp
                refine hK _ _ ?_ (fun hHeld => ?_)
                · ((try dsimp only); (exact HS.out _ (Below.heap_alloc _ _ _ lV) (Below.heap_alloc _ _ _ lM)))
                clear hK K
                try simp only [Act.put, List.setIfInBounds_toArray, List.set_cons_zero, List.set_cons_succ]
                refine wpAnyL_step (j := 13) (o := _) (by kernel_rfl) rfl (fun K hK => ?_)
                (refine step_append_lies _ (by rfl) _ _ _ (by rfl) (w.heap.size + 1) 3 i0 (.int .i64 0) 1 8 Try.underlying28 hi0 hz0 hz1 hz2 rfl (by decide) v zs.length (zs.map (Value.int .i64)) (by rfl) ((HOWN.out.1.alloc _).drew) ⟨wr.heap.size, 0, none⟩ 1 1 [.int .i64 k] (by rfl) (by rfl) (World.news_of_block (cs := #[.int .i64 k]) (t := 3) (fr := (0, 0)) (heap_alloc_new wr _)) (by simp [Value.oneCell']) (by omega) (by simp only [maxLen]; omega) (by omega) (by simp; omega) (wr.heap.size + 1) (by simp) ?_; intro gg cap w1 hown1 hgrow hat hlt1; obtain ⟨w2, hrun, hG2, hg2⟩ := HBACK.out w1 (.slice (some ⟨gg, 0, none⟩) (zs.length + 1) cap) (zs ++ [(k : Int)]) ((grownAlloc wr _ v.ownBlock).trans hgrow) (HOWN.out.appended (x := (k : Int)) hown1 (wf64 ⟨by omega, by omega⟩)) (by simp; omega) (hat.elim (fun h => Or.inl h.symm) (fun h => Or.inr ⟨gg, rfl, by omega⟩)))
                refine hK _ _ ?_ (fun hHeld => ?_)
                · ((try dsimp only); (exact HS.out _ ((hgrow.block V (by simp; omega) hva).trans (Below.heap_alloc _ _ _ lV)) ((hgrow.block w.heap.size (by simp; omega) hmv).trans (Below.heap_alloc _ _ _ lM))))
                clear hK K
                try simp only [Act.put, List.setIfInBounds_toArray, List.set_cons_zero, List.set_cons_succ]
                refine wpAnyL_last (j := 14) (o := _) (by kernel_rfl) rfl (by rfl) (by kernel_rfl) (fun K hK => ?_)
                go_simp
                (refine hK _ _ ?_; clear hK K)
                try simp only [Act.put, List.setIfInBounds_toArray, List.set_cons_zero, List.set_cons_succ]
                have hGE : Hid (GroupsAt Try.prog 2 3 w2 w.heap.size (n + 1) (fun y => if a ≤ y ∧ y < a + ((q + 1 : Nat) : Int) then F y ++ [(k : Int)] else F y)) := Lib.hid (hG2.congr (fun y => by
                  by_cases h1 : y = a + (q : Int)
                  · rw [if_pos h1, if_pos (by omega), h1, hzs]
                  · rw [if_neg h1]
                    by_cases h2 : a ≤ y ∧ y < a + (q : Int)
                    · rw [if_pos h2, if_pos (by omega)]
                    · rw [if_neg h2, if_neg (by omega)]))
                have hWE : Hid (Below w.heap.size w w2) := Lib.hid (((hW.out.grown ((grownAlloc wr _ v.ownBlock).trans hgrow) hW.out.size (fun kk h => by have := (HOWN.out.1.lt kk h).1; omega)).grown hg2 (by have := hW.out.size; have := hgrow.size; simp at this; omega) (fun kk h => by injection h with h; omega)))
                have hbE : Hid (w2.heap[V]? = some (.cells #[.int .i64 eth, .int .u8 6, .int .i64 a, .int .i64 bv] 38 (0, 0))) := Lib.hid ((hg2.block V (by have := hgrow.size; simp at this; omega) (fun e => hVM (by injection e))).trans (((hgrow.block V (by simp; omega) hva).trans (Below.heap_alloc _ _ _ lV)).trans hb.out))
                clear hG2 hg2 hgrow hown1 hG hW hb hrun
                go_wp2_with fail
                go_roundw
                case rel => exact ⟨q + 1, n + 1, by go_num, by omega, by omega, hGE, hWE, hbE⟩
                case measure => simp [intOf]; omega
              · obtain rfl : (q : Int) = bv := by omega
                clear hb
                go_wp2_with fail
                go_roundw
                case rel => exact ⟨j + 1, n, _, by go_num, by omega, by omega, hst2, hG, hW⟩
                case measure => simp [intOf]; omega
          · have t1 : (ekd == 6) = false := by simp; omega
            have t2 : decide (ekd = 6) = false := by simp; omega
            have hst2 : Hid (madeGo (k + 1) (l.drop (k + 1)) (attStep (k : Int) F (evs.drop (j + 1))) = res) := Lib.hid (by rw [← hst.out]; unfold evStep; rw [if_neg (by exact h6)])
            have hGE := Lib.hid (fun o => hG.out.alloc o)
            have hWE := Lib.hid (fun o => hW.out.alloc hW.out.size o)
            clear hst hG hW hkk h6
            go_wp2_with fail
            go_roundw
            case rel => exact ⟨j + 1, n, F, by go_num, by omega, by omega, hst2, Lib.hid (hGE.out _), Lib.hid (hWE.out _)⟩
            case measure => simp [intOf]; omega
        · have hst2 : Hid (madeGo (k + 1) (l.drop (k + 1)) F = res) := Lib.hid (by
            have h := hV.out
            rw [show evs.drop j = [] from List.drop_eq_nil_of_le (by omega)] at h
            exact h)
          clear hV
          go_wp2_with fail
          go_roundw
          case rel => exact ⟨k + 1, n, F, by go_num, by omega, by rw [HTR.out]; omega, hst2, hG, hW⟩
          case measure => simp [intOf]; omega
    · have F1 : Hid (F = res) := Lib.hid (by rw [← hV.out, List.drop_eq_nil_of_le (by omega)]; rfl)
      have hE : Hid (∃ n, n ≤ 100000000 ∧ GroupsAt Try.prog 2 3 wr w.heap.size n res) := Lib.hid ⟨n, by omega, by rw [← F1.out]; exact hG.out⟩
      clear hV hG F1
      go_wp2_with fail
      go_ret
      exact ⟨rfl, hE.out, hW.out⟩
end Go.Proofs.Ytjaegddnikkibaa
