/-
  The second reference's Own, walked.
-/
import Derived.Test.YtjaegddnikkibaaRfLaw
import Derived.Test.YtjaegddnikkibaaOwnKit
import Derived.Test.YtjaegddnikkibaaOpCheck
import Derived.BigQuiet
set_option linter.unusedVariables false
set_option linter.unusedSimpArgs false
namespace Go.Proofs.Ytjaegddnikkibaa
open Go.RowKit Go.Sort

def lawA (l : List Att) (y : Att) : List Ev → Bool
  | [] => true
  | e :: r => (if e.kd = 2 ∨ e.kd = 3 then lawfulV l y e.a else true) && lawA l y r
theorem ownGo_split (l : List Att) (y : Att) : ∀ (r pre : List Ev), (∀ e ∈ r, ∃ t, evB t e = true) → ownGo l y pre r = (own2 pre r && lawA l y r)
  | [], _, _ => rfl
  | e :: r, pre, h => by
    have ih := ownGo_split l y r (pre ++ [e]) (fun e he => h e (by simp [he]))
    unfold ownGo own2 lawA
    rw [ih]
    obtain ⟨t, ht⟩ := h e (by simp)
    obtain ⟨eth, ekd, ea, eb⟩ := e
    have hk := evB_iff.1 ht
    dsimp only
    by_cases h6 : ekd = 6
    · rw [if_pos h6, if_neg (by omega), if_neg (by omega)]; simp
    · rw [if_neg h6]
      by_cases h4 : ekd = 4 ∨ ekd = 5
      · rw [if_pos h4, if_pos h4, if_neg (by omega)]; simp [Bool.and_assoc]
      · rw [if_neg h4, if_neg h4, if_pos (by omega)]
        cases lawfulV l y ea <;> simp
theorem lawA_step {l : List Att} {y : Att} {evs : List Ev} {k : Nat} (h : k < evs.length) : lawA l y (evs.drop k) = ((if evs[k].kd = 2 ∨ evs[k].kd = 3 then lawfulV l y evs[k].a else true) && lawA l y (evs.drop (k + 1))) := by
  rw [List.drop_eq_getElem_cons h]; rfl

abbrev OwS (w0 : World) (V : Nat) (ekd ea : Int) (b o : Nat) (th kd bg en ck pl : Int) (wt : Bool) (dv : Value) (W : World) : Prop :=
  Below w0.heap.size w0 W ∧ W.cell? ⟨V, 1, none⟩ = some (.int .u8 ekd) ∧ W.cell? ⟨V, 2, none⟩ = some (.int .i64 ea) ∧
    W.cell? ⟨b, o, none⟩ = some (.int .i64 th) ∧ W.cell? ⟨b, o + 1, none⟩ = some (.int .u8 kd) ∧ W.cell? ⟨b, o + 2, none⟩ = some (.int .i64 bg) ∧ W.cell? ⟨b, o + 3, none⟩ = some (.int .i64 en) ∧ W.cell? ⟨b, o + 4, none⟩ = some (.int .i64 ck) ∧
    W.cell? ⟨b, o + 5, none⟩ = some (.int .i64 pl) ∧ W.cell? ⟨b, o + 6, none⟩ = some (.bool wt) ∧ W.cell? ⟨b, o + 7, none⟩ = some dv
theorem owS_of {w0 : World} {V b o : Nat} {ekd ea : Int} {x : Att} (h1 : w0.cell? ⟨V, 1, none⟩ = some (.int .u8 ekd)) (h2 : w0.cell? ⟨V, 2, none⟩ = some (.int .i64 ea)) (h : AttAt w0 b o x) (W : World) (hW : Below w0.heap.size w0 W) :
    OwS w0 V ekd ea b o x.th x.kd x.bg x.en x.ck x.pl x.wr (.slice x.dA x.evs.length x.dc) W := by
  have hb := World.block_lt_of_cell? _ _ h.c0
  have hv := World.block_lt_of_cell? _ _ h1
  obtain ⟨a0, a1, a2, a3, a4, a5, a6, a7⟩ := h.keep fun o' => hW.cell (p := ⟨b, o', none⟩) hb
  exact ⟨hW, (hW.cell (p := ⟨V, 1, none⟩) hv).trans h1, (hW.cell (p := ⟨V, 2, none⟩) hv).trans h2, a0, a1, a2, a3, a4, a5, a6, a7⟩

set_option maxHeartbeats 4000000 in
set_option maxRecDepth 100000 in
theorem rfOwnAll_any (A : Option Addr) (c : Nat) (l : List Att) (hn : l.length ≤ 1048576) (hO : ∀ x ∈ l, x.Ok) (w : World) (ha : AttsAt w w.heap.size A l) :
    Calls Try.prog 20 #[.slice A l.length c] w fun e w' => e = .returned (.tuple #[.int .i64 (oownV l).1, .int .i64 (oownV l).2]) ∧ Below w.heap.size w w' := by
  have HC := Lib.hid (fun w1 (h : Below w.heap.size w w1) => rfMay_any A c l (by omega) hO w1 (ha.keep h h.size))
  have HA := Lib.hid (fun W (h : Below w.heap.size w W) => ha.keep h (Nat.le_refl _))
  clear ha hO
  by_cases hck : checkedV l = 0
  · obtain ⟨hts, hatt⟩ := checked_ok hck
    have HEE : Hid (∀ x ∈ l, x.evs.length ≤ 1048576 ∧ ∀ e ∈ x.evs, ∃ t, evB t e = true) := Lib.hid (fun x hx => ⟨Nat.le_trans (evs_le_total l x hx) hts, fun e he => ⟨x.th, attB_evs (hatt x hx) e he⟩⟩)
    have HV : Hid (oownV l = failV 17 (firstNot (ownB l) 0 l.length)) := Lib.hid (by unfold oownV; rw [if_pos hck])
    have HK := Lib.hid hck
    have HOWN : Hid (∀ k (h : k < l.length), ownB l (k : Int) = (own2 [] l[k].evs && lawA l l[k] l[k].evs)) := Lib.hid (fun k h => by
      unfold ownB
      rw [attN_get h]
      exact ownGo_split l l[k] _ _ (HEE.out _ (List.getElem_mem h)).2)
    clear hts hatt hck
    obtain ⟨res, hres⟩ : ∃ res, oownV l = res := ⟨_, rfl⟩
    rw [hres] at HV ⊢
    clear hres
    go_enter Try.func20, Try.ntmps20
    go_wp2_with fail
    refine (HC.out _ (Below.refl _ _)).mono ?_
    rintro e w0 ⟨rfl, hb1⟩
    rw [HK.out]
    have HB0 := Lib.hid hb1
    clear hb1
    go_wp2_with fail
    go_loopw [5] (fun i wr => ∃ k : Nat, i = .int .i64 k ∧ k ≤ l.length ∧ Hid (res = failV 17 (firstNot (ownB l) k (l.length - k))) ∧ Hid (Below w.heap.size w wr)) (fun i _ => l.length - (intOf i).toNat)
    case atStart => exact ⟨0, rfl, Nat.zero_le _, HV, HB0⟩
    case round =>
      clear HV
      obtain ⟨k, rfl, hk, hV, hW⟩ := hrel
      by_cases hlt : k < l.length
      · obtain ⟨b, off, rfl, hbl, -⟩ := (HA.out _ hW.out).row (by rintro rfl; simp at hlt)
        have HCX := Lib.hid (fun W (h : Below w.heap.size w W) => (HA.out W h).at (List.getElem?_eq_getElem hlt))
        have HEV := Lib.hid (fun W (h : Below w.heap.size w W) => (HA.out W h).evs _ (List.getElem_mem hlt))
        have HX := Lib.hid (HEE.out _ (List.getElem_mem hlt))
        have ho := Lib.hid (HOWN.out k hlt)
        have hst : Hid (firstNot (ownB l) k (l.length - k) = if ownB l (k : Int) then firstNot (ownB l) (k + 1) (l.length - (k + 1)) else some (k : Int)) := Lib.hid (by rw [show l.length - k = (l.length - (k + 1)) + 1 by omega]; rfl)
        have q1 : (k : Int) < (l.length : Int) := by omega
        have q2 : (0 : Int) ≤ (k : Int) := Int.natCast_nonneg _
        generalize l[k] = x at *
        obtain ⟨th, kd, bg, en, ck, pl, wt, dA, dc, evs⟩ := x
        obtain ⟨c0, c1, c2, c3, c4, c5, c6, c7⟩ := HCX.out _ hW.out
        dsimp only at c0 c1 c2 c3 c4 c5 c6 c7 HX HEV
        obtain ⟨hx1, hx2⟩ := HX.out
        have HX2 := Lib.hid hx2
        obtain ⟨y, hy⟩ : ∃ y : Att, (⟨th, kd, bg, en, ck, pl, wt, dA, dc, evs⟩ : Att) = y := ⟨_, rfl⟩
        have HY := Lib.hid hy.symm
        rw [hy] at ho
        try dsimp only at ho
        have hOW := Lib.hid (rfOwn_any th kd bg en ck pl wt dA dc evs w.heap.size hx1 hx2 wr (HEV.out _ hW.out) hW.out.size)
        clear hx2 hy HX
        have HEVS : Hid (y.evs = evs) := Lib.hid (by rw [HY.out])
        rw [HEVS.out] at ho
        cases hown : own2 [] evs
        · have hF : Hid (res = ((k : Int), 17)) := Lib.hid (by rw [hV.out, hst.out, ho.out, hown]; rfl)
          clear hV hst ho
          go_wp2_with fail
          refine hOW.out.mono ?_
          rintro e w1 ⟨rfl, hb⟩
          rw [hown]
          have hE := Lib.hid (hW.out.trans (hb.mono hW.out.size))
          clear hb hOW
          go_wp2_with fail
          refine bodyPost_ret (v := .tuple #[.int .i64 k, .int .i64 17]) (by simp [results, Try.results20, go_sem]) rfl ?_
          exact ⟨by rw [hF.out], hE.out⟩
        · have HBAD : Hid (lawA l y evs = false → res = ((k : Int), 17)) := Lib.hid (fun h => by rw [hV.out, hst.out, ho.out, hown, h]; rfl)
          have HGOOD : Hid (lawA l y evs = true → res = failV 17 (firstNot (ownB l) (k + 1) (l.length - (k + 1)))) := Lib.hid (fun h => by rw [hV.out, hst.out, ho.out, hown, h]; rfl)
          clear hV hst ho
          go_wp2_with fail
          refine hOW.out.mono ?_
          rintro e w1 ⟨rfl, hb⟩
          rw [hown]
          have hE := Lib.hid (hW.out.trans (hb.mono hW.out.size))
          clear hb hOW c0 c1 c2 c3 c4 c5 c6 c7
          have HL0 : Hid (lawA l y evs = lawA l y (evs.drop 0)) := Lib.hid rfl
          go_wp2_with fail
          obtain ⟨wo, rfl⟩ : ∃ wo : World, wo = wr := ⟨_, rfl⟩
          go_loopw [6] (fun i wr => ∃ j : Nat, i = .int .i64 j ∧ j ≤ evs.length ∧ Hid (lawA l y evs = lawA l y (evs.drop j)) ∧ Hid (Below w.heap.size w wr)) (fun i _ => evs.length - (intOf i).toNat)
          case atStart => exact ⟨0, rfl, Nat.zero_le _, HL0, hE⟩
          case round =>
            clear HL0
            obtain ⟨j, rfl, hj, hV, hWj⟩ := hrel
            obtain ⟨-, -, -, -, -, -, -, c7⟩ := HCX.out _ hWj.out
            dsimp only at c7
            by_cases hjl : j < evs.length
            · obtain ⟨gb, goff, rfl, hgl, hgc⟩ := HEV.out _ hWj.out (by rintro rfl; simp at hjl)
              obtain ⟨e0, e1, e2, e3⟩ := hgc j _ (List.getElem?_eq_getElem hjl)
              obtain ⟨t, ht⟩ := HX2.out _ (List.getElem_mem hjl)
              have hst := Lib.hid (lawA_step (l := l) (y := y) hjl)
              have q3 : (j : Int) < (evs.length : Int) := by omega
              have q4 : (0 : Int) ≤ (j : Int) := Int.natCast_nonneg _
              have hE0 := Lib.hid (fun o => hWj.out.alloc hWj.out.size o)
              clear hgc
              generalize evs[j] = ev at *
              obtain ⟨eth, ekd, ea, eb⟩ := ev
              dsimp only at *
              obtain ⟨-, hev⟩ := evB_iff.1 ht
              clear ht
              obtain ⟨w1, hw1⟩ : ∃ w1, wr.alloc (.cells #[.int .i64 eth, .int .u8 ekd, .int .i64 ea, .int .i64 eb] 38 (0, 0)) = w1 := ⟨_, rfl⟩
              obtain ⟨V, hV0⟩ : ∃ V, wr.heap.size = V := ⟨_, rfl⟩
              have d1 : w1.cell? ⟨V, 1, none⟩ = some (.int .u8 ekd) := by rw [← hw1, ← hV0]; simp
              have d2 : w1.cell? ⟨V, 2, none⟩ = some (.int .i64 ea) := by rw [← hw1, ← hV0]; simp
              have hE1 : Hid (Below w.heap.size w w1) := Lib.hid (by rw [← hw1]; exact hE0.out _)
              have HS := Lib.hid (owS_of d1 d2 (HCX.out _ hE1.out))
              have HZZ := Lib.hid (fun W (h : Below w1.heap.size w1 W) => hE1.out.trans (h.mono hE1.out.size))
              have HAW := Lib.hid (fun W (h : Below w1.heap.size w1 W) => HA.out W (HZZ.out W h))
              have HZW := Lib.hid (fun W (h : Below w1.heap.size w1 W) => (HZZ.out W h).size)
              by_cases g2 : ekd = 2
              · subst g2
                have hst2 : Hid (lawA l y (evs.drop j) = (lawfulV l y ea && lawA l y (evs.drop (j + 1)))) := Lib.hid (by rw [hst.out]; rfl)
                have hq : Hid (lawfulV l y ea = lawfulV l ⟨th, kd, bg, en, ck, pl, wt, some ⟨gb, goff, none⟩, dc, evs⟩ ea) := Lib.hid (by rw [HY.out])
                cases hlw : lawfulV l ⟨th, kd, bg, en, ck, pl, wt, some ⟨gb, goff, none⟩, dc, evs⟩ ea
                · have hF : Hid (res = ((k : Int), 17)) := Lib.hid (HBAD.out (by rw [hV.out, hst2.out, hq.out, hlw]; rfl))
                  clear hst hst2 hV hq hE0
                  go_wp2_with fail
                  refine wp_region_L (l := 18) (S := (OwS w1 V 2 ea b (off + k * 8) th kd bg en ck pl wt (.slice (some ⟨gb, goff, none⟩) evs.length dc))) (by kernel_rfl) ?_ (fun hHeld => ?_)
                  · ((try dsimp only); (exact HS.out _ (Below.refl _ _).drew))
                  refine wpAnyL_take (i := 0) (oi := _) (v := ?v1) rfl (by kernel_rfl) (fun _ _ _ h => h) (by assumption) (Or.inl ⟨by kernel_rfl, ?y1⟩) ?r1
                  case y1 => (intro w hSw; (try dsimp only at hSw); go_simp; all_goals with_reducible rfl)
                  try simp only [Act.put, List.setIfInBounds_toArray, List.set_cons_zero, List.set_cons_succ]
                  refine wpAnyL_take (i := 1) (oi := _) (v := ?v2) rfl (by kernel_rfl) (fun _ _ _ h => h) (by assumption) (Or.inl ⟨by kernel_rfl, ?y2⟩) ?r2
                  case y2 => (intro w hSw; (try dsimp only at hSw); go_simp; all_goals with_reducible rfl)
                  try simp only [Act.put, List.setIfInBounds_toArray, List.set_cons_zero, List.set_cons_succ]
                  refine wpAnyL_take (i := 2) (oi := _) (v := ?v3) rfl (by kernel_rfl) (fun _ _ _ h => h) (by assumption) (Or.inl ⟨by kernel_rfl, ?y3⟩) ?r3
                  case y3 => (intro w hSw; (try dsimp only at hSw); go_simp; all_goals with_reducible rfl)
                  try simp only [Act.put, List.setIfInBounds_toArray, List.set_cons_zero, List.set_cons_succ]
                  refine wpAnyL_take (i := 3) (oi := _) (v := ?v4) rfl (by kernel_rfl) (fun _ _ _ h => h) (by assumption) (Or.inl ⟨by kernel_rfl, ?y4⟩) ?r4
                  case y4 => (intro w hSw; (try dsimp only at hSw); go_simp; all_goals with_reducible rfl)
                  try simp only [Act.put, List.setIfInBounds_toArray, List.set_cons_zero, List.set_cons_succ]
                  refine wpAnyL_take (i := 4) (oi := _) (v := undef) rfl (by kernel_rfl) (fun _ _ _ h => h) (by assumption) (Or.inr ⟨by kernel_rfl, rfl⟩) ?_
                  try simp only [Act.put, List.setIfInBounds_toArray, List.set_cons_zero, List.set_cons_succ]
                  refine wpAnyL_take (i := 5) (oi := _) (v := undef) rfl (by kernel_rfl) (fun _ _ _ h => h) (by assumption) (Or.inr ⟨by kernel_rfl, rfl⟩) ?_
                  try simp only [Act.put, List.setIfInBounds_toArray, List.set_cons_zero, List.set_cons_succ]
                  refine wpAnyL_take (i := 6) (oi := _) (v := undef) rfl (by kernel_rfl) (fun _ _ _ h => h) (by assumption) (Or.inr ⟨by kernel_rfl, rfl⟩) ?_
                  try simp only [Act.put, List.setIfInBounds_toArray, List.set_cons_zero, List.set_cons_succ]
                  refine wpAnyL_take (i := 7) (oi := _) (v := ?v8) rfl (by kernel_rfl) (fun _ _ _ h => h) (by assumption) (Or.inl ⟨by kernel_rfl, ?y8⟩) ?r8
                  case y8 => (intro w hSw; (try dsimp only at hSw); go_simp; all_goals with_reducible rfl)
                  try simp only [Act.put, List.setIfInBounds_toArray, List.set_cons_zero, List.set_cons_succ]
                  refine wpAnyL_take (i := 8) (oi := _) (v := ?v9) rfl (by kernel_rfl) (fun _ _ _ h => h) (by assumption) (Or.inl ⟨by kernel_rfl, ?y9⟩) ?r9
                  case y9 => (intro w hSw; (try dsimp only at hSw); go_simp; all_goals with_reducible rfl)
                  try simp only [Act.put, List.setIfInBounds_toArray, List.set_cons_zero, List.set_cons_succ]
                  refine wpAnyL_take (i := 9) (oi := _) (v := ?v10) rfl (by kernel_rfl) (fun _ _ _ h => h) (by assumption) (Or.inl ⟨by kernel_rfl, ?y10⟩) ?r10
                  case y10 => (intro w hSw; (try dsimp only at hSw); go_simp; all_goals with_reducible rfl)
                  try simp only [Act.put, List.setIfInBounds_toArray, List.set_cons_zero, List.set_cons_succ]
                  refine wpAnyL_take (i := 10) (oi := _) (v := ?v11) rfl (by kernel_rfl) (fun _ _ _ h => h) (by assumption) (Or.inl ⟨by kernel_rfl, ?y11⟩) ?r11
                  case y11 => (intro w hSw; (try dsimp only at hSw); go_simp; all_goals with_reducible rfl)
                  try simp only [Act.put, List.setIfInBounds_toArray, List.set_cons_zero, List.set_cons_succ]
                  refine wpAnyL_take (i := 11) (oi := _) (v := ?v12) rfl (by kernel_rfl) (fun _ _ _ h => h) (by assumption) (Or.inl ⟨by kernel_rfl, ?y12⟩) ?r12
                  case y12 => (intro w hSw; (try dsimp only at hSw); go_simp; all_goals with_reducible rfl)
                  try simp only [Act.put, List.setIfInBounds_toArray, List.set_cons_zero, List.set_cons_succ]
                  refine wpAnyL_take (i := 12) (oi := _) (v := ?v13) rfl (by kernel_rfl) (fun _ _ _ h => h) (by assumption) (Or.inl ⟨by kernel_rfl, ?y13⟩) ?r13
                  case y13 => (intro w hSw; (try dsimp only at hSw); go_simp; all_goals with_reducible rfl)
                  try simp only [Act.put, List.setIfInBounds_toArray, List.set_cons_zero, List.set_cons_succ]
                  refine wpAnyL_take (i := 13) (oi := _) (v := ?v14) rfl (by kernel_rfl) (fun _ _ _ h => h) (by assumption) (Or.inl ⟨by kernel_rfl, ?y14⟩) ?r14
                  case y14 => (intro w hSw; (try dsimp only at hSw); go_simp; all_goals with_reducible rfl)
                  try simp only [Act.put, List.setIfInBounds_toArray, List.set_cons_zero, List.set_cons_succ]
                  refine wpAnyL_take (i := 14) (oi := _) (v := ?v15) rfl (by kernel_rfl) (fun _ _ _ h => h) (by assumption) (Or.inl ⟨by kernel_rfl, ?y15⟩) ?r15
                  case y15 => (intro w hSw; (try dsimp only at hSw); go_simp; all_goals with_reducible rfl)
                  try simp only [Act.put, List.setIfInBounds_toArray, List.set_cons_zero, List.set_cons_succ]
                  refine wpAnyL_take (i := 15) (oi := _) (v := ?v16) rfl (by kernel_rfl) (fun _ _ _ h => h) (by assumption) (Or.inl ⟨by kernel_rfl, ?y16⟩) ?r16
                  case y16 => (intro w hSw; (try dsimp only at hSw); go_simp; all_goals with_reducible rfl)
                  try simp only [Act.put, List.setIfInBounds_toArray, List.set_cons_zero, List.set_cons_succ]
                  refine wpAnyL_step (j := 16) (o := _) (by kernel_rfl) rfl (fun K hK => ?_)
                  (go_simp; go_at_call 54; refine (rfLawful_any (some ⟨b, off, none⟩) c l th kd bg en ck pl wt (.slice (some ⟨gb, goff, none⟩) evs.length dc) (some ⟨gb, goff, none⟩) dc evs ea w.heap.size hn HEE.out (by omega) (by omega) _ (HAW.out _ hHeld.1) (HZW.out _ hHeld.1)).mono ?_; rintro e w4 ⟨rfl, hb4⟩; rw [hlw])
                  refine hK _ _ ?_ (fun hHeld => ?_)
                  · ((try dsimp only); (exact HS.out _ (hHeld.1.trans (hb4.mono hHeld.1.size))))
                  clear hK K
                  try simp only [Act.put, List.setIfInBounds_toArray, List.set_cons_zero, List.set_cons_succ]
                  refine wpAnyL_take (i := 17) (oi := _) (v := ?v18) rfl (by kernel_rfl) (fun _ _ _ h => h) (by assumption) (Or.inl ⟨by kernel_rfl, ?y18⟩) ?r18
                  case y18 => (intro w hSw; (try dsimp only at hSw); go_simp; all_goals with_reducible rfl)
                  try simp only [Act.put, List.setIfInBounds_toArray, List.set_cons_zero, List.set_cons_succ]
                  refine wpAnyL_last (j := 18) (o := _) (by kernel_rfl) rfl (by rfl) (by kernel_rfl) (fun K hK => ?_)
                  go_simp
                  (refine hK _ _ ?_; clear hK K)
                  try simp only [Act.put, List.setIfInBounds_toArray, List.set_cons_zero, List.set_cons_succ]
                  have hE2 := Lib.hid (HZZ.out _ hHeld.1)
                  clear hHeld
                  go_wp2_with fail
                  refine bodyPost_ret (v := .tuple #[.int .i64 k, .int .i64 17]) (by simp [results, Try.results20, go_sem]) rfl ?_
                  exact ⟨by rw [hF.out], hE2.out⟩
                · have hF : Hid (lawA l y evs = lawA l y (evs.drop (j + 1))) := Lib.hid (by rw [hV.out, hst2.out, hq.out, hlw]; rfl)
                  clear hst hst2 hV hq hE0
                  go_wp2_with fail
                  refine wp_region_L (l := 18) (S := (OwS w1 V 2 ea b (off + k * 8) th kd bg en ck pl wt (.slice (some ⟨gb, goff, none⟩) evs.length dc))) (by kernel_rfl) ?_ (fun hHeld => ?_)
                  · ((try dsimp only); (exact HS.out _ (Below.refl _ _).drew))
                  refine wpAnyL_take (i := 0) (oi := _) (v := ?v20) rfl (by kernel_rfl) (fun _ _ _ h => h) (by assumption) (Or.inl ⟨by kernel_rfl, ?y20⟩) ?r20
                  case y20 => (intro w hSw; (try dsimp only at hSw); go_simp; all_goals with_reducible rfl)
                  try simp only [Act.put, List.setIfInBounds_toArray, List.set_cons_zero, List.set_cons_succ]
                  refine wpAnyL_take (i := 1) (oi := _) (v := ?v21) rfl (by kernel_rfl) (fun _ _ _ h => h) (by assumption) (Or.inl ⟨by kernel_rfl, ?y21⟩) ?r21
                  case y21 => (intro w hSw; (try dsimp only at hSw); go_simp; all_goals with_reducible rfl)
                  try simp only [Act.put, List.setIfInBounds_toArray, List.set_cons_zero, List.set_cons_succ]
                  refine wpAnyL_take (i := 2) (oi := _) (v := ?v22) rfl (by kernel_rfl) (fun _ _ _ h => h) (by assumption) (Or.inl ⟨by kernel_rfl, ?y22⟩) ?r22
                  case y22 => (intro w hSw; (try dsimp only at hSw); go_simp; all_goals with_reducible rfl)
                  try simp only [Act.put, List.setIfInBounds_toArray, List.set_cons_zero, List.set_cons_succ]
                  refine wpAnyL_take (i := 3) (oi := _) (v := ?v23) rfl (by kernel_rfl) (fun _ _ _ h => h) (by assumption) (Or.inl ⟨by kernel_rfl, ?y23⟩) ?r23
                  case y23 => (intro w hSw; (try dsimp only at hSw); go_simp; all_goals with_reducible rfl)
                  try simp only [Act.put, List.setIfInBounds_toArray, List.set_cons_zero, List.set_cons_succ]
                  refine wpAnyL_take (i := 4) (oi := _) (v := undef) rfl (by kernel_rfl) (fun _ _ _ h => h) (by assumption) (Or.inr ⟨by kernel_rfl, rfl⟩) ?_
                  try simp only [Act.put, List.setIfInBounds_toArray, List.set_cons_zero, List.set_cons_succ]
                  refine wpAnyL_take (i := 5) (oi := _) (v := undef) rfl (by kernel_rfl) (fun _ _ _ h => h) (by assumption) (Or.inr ⟨by kernel_rfl, rfl⟩) ?_
                  try simp only [Act.put, List.setIfInBounds_toArray, List.set_cons_zero, List.set_cons_succ]
                  refine wpAnyL_take (i := 6) (oi := _) (v := undef) rfl (by kernel_rfl) (fun _ _ _ h => h) (by assumption) (Or.inr ⟨by kernel_rfl, rfl⟩) ?_
                  try simp only [Act.put, List.setIfInBounds_toArray, List.set_cons_zero, List.set_cons_succ]
                  refine wpAnyL_take (i := 7) (oi := _) (v := ?v27) rfl (by kernel_rfl) (fun _ _ _ h => h) (by assumption) (Or.inl ⟨by kernel_rfl, ?y27⟩) ?r27
                  case y27 => (intro w hSw; (try dsimp only at hSw); go_simp; all_goals with_reducible rfl)
                  try simp only [Act.put, List.setIfInBounds_toArray, List.set_cons_zero, List.set_cons_succ]
                  refine wpAnyL_take (i := 8) (oi := _) (v := ?v28) rfl (by kernel_rfl) (fun _ _ _ h => h) (by assumption) (Or.inl ⟨by kernel_rfl, ?y28⟩) ?r28
                  case y28 => (intro w hSw; (try dsimp only at hSw); go_simp; all_goals with_reducible rfl)
                  try simp only [Act.put, List.setIfInBounds_toArray, List.set_cons_zero, List.set_cons_succ]
                  refine wpAnyL_take (i := 9) (oi := _) (v := ?v29) rfl (by kernel_rfl) (fun _ _ _ h => h) (by assumption) (Or.inl ⟨by kernel_rfl, ?y29⟩) ?r29
                  case y29 => (intro w hSw; (try dsimp only at hSw); go_simp; all_goals with_reducible rfl)
                  try simp only [Act.put, List.setIfInBounds_toArray, List.set_cons_zero, List.set_cons_succ]
                  refine wpAnyL_take (i := 10) (oi := _) (v := ?v30) rfl (by kernel_rfl) (fun _ _ _ h => h) (by assumption) (Or.inl ⟨by kernel_rfl, ?y30⟩) ?r30
                  case y30 => (intro w hSw; (try dsimp only at hSw); go_simp; all_goals with_reducible rfl)
                  try simp only [Act.put, List.setIfInBounds_toArray, List.set_cons_zero, List.set_cons_succ]
                  refine wpAnyL_take (i := 11) (oi := _) (v := ?v31) rfl (by kernel_rfl) (fun _ _ _ h => h) (by assumption) (Or.inl ⟨by kernel_rfl, ?y31⟩) ?r31
                  case y31 => (intro w hSw; (try dsimp only at hSw); go_simp; all_goals with_reducible rfl)
                  try simp only [Act.put, List.setIfInBounds_toArray, List.set_cons_zero, List.set_cons_succ]
                  refine wpAnyL_take (i := 12) (oi := _) (v := ?v32) rfl (by kernel_rfl) (fun _ _ _ h => h) (by assumption) (Or.inl ⟨by kernel_rfl, ?y32⟩) ?r32
                  case y32 => (intro w hSw; (try dsimp only at hSw); go_simp; all_goals with_reducible rfl)
                  try simp only [Act.put, List.setIfInBounds_toArray, List.set_cons_zero, List.set_cons_succ]
                  refine wpAnyL_take (i := 13) (oi := _) (v := ?v33) rfl (by kernel_rfl) (fun _ _ _ h => h) (by assumption) (Or.inl ⟨by kernel_rfl, ?y33⟩) ?r33
                  case y33 => (intro w hSw; (try dsimp only at hSw); go_simp; all_goals with_reducible rfl)
                  try simp only [Act.put, List.setIfInBounds_toArray, List.set_cons_zero, List.set_cons_succ]
                  refine wpAnyL_take (i := 14) (oi := _) (v := ?v34) rfl (by kernel_rfl) (fun _ _ _ h => h) (by assumption) (Or.inl ⟨by kernel_rfl, ?y34⟩) ?r34
                  case y34 => (intro w hSw; (try dsimp only at hSw); go_simp; all_goals with_reducible rfl)
                  try simp only [Act.put, List.setIfInBounds_toArray, List.set_cons_zero, List.set_cons_succ]
                  refine wpAnyL_take (i := 15) (oi := _) (v := ?v35) rfl (by kernel_rfl) (fun _ _ _ h => h) (by assumption) (Or.inl ⟨by kernel_rfl, ?y35⟩) ?r35
                  case y35 => (intro w hSw; (try dsimp only at hSw); go_simp; all_goals with_reducible rfl)
                  try simp only [Act.put, List.setIfInBounds_toArray, List.set_cons_zero, List.set_cons_succ]
                  refine wpAnyL_step (j := 16) (o := _) (by kernel_rfl) rfl (fun K hK => ?_)
                  (go_simp; go_at_call 54; refine (rfLawful_any (some ⟨b, off, none⟩) c l th kd bg en ck pl wt (.slice (some ⟨gb, goff, none⟩) evs.length dc) (some ⟨gb, goff, none⟩) dc evs ea w.heap.size hn HEE.out (by omega) (by omega) _ (HAW.out _ hHeld.1) (HZW.out _ hHeld.1)).mono ?_; rintro e w4 ⟨rfl, hb4⟩; rw [hlw])
                  refine hK _ _ ?_ (fun hHeld => ?_)
                  · ((try dsimp only); (exact HS.out _ (hHeld.1.trans (hb4.mono hHeld.1.size))))
                  clear hK K
                  try simp only [Act.put, List.setIfInBounds_toArray, List.set_cons_zero, List.set_cons_succ]
                  refine wpAnyL_take (i := 17) (oi := _) (v := ?v37) rfl (by kernel_rfl) (fun _ _ _ h => h) (by assumption) (Or.inl ⟨by kernel_rfl, ?y37⟩) ?r37
                  case y37 => (intro w hSw; (try dsimp only at hSw); go_simp; all_goals with_reducible rfl)
                  try simp only [Act.put, List.setIfInBounds_toArray, List.set_cons_zero, List.set_cons_succ]
                  refine wpAnyL_last (j := 18) (o := _) (by kernel_rfl) rfl (by rfl) (by kernel_rfl) (fun K hK => ?_)
                  go_simp
                  (refine hK _ _ ?_; clear hK K)
                  try simp only [Act.put, List.setIfInBounds_toArray, List.set_cons_zero, List.set_cons_succ]
                  have hE2 := Lib.hid (HZZ.out _ hHeld.1)
                  clear hHeld
                  go_wp2_with fail
                  go_roundw
                  case rel => exact ⟨j + 1, by go_num, by omega, hF, hE2⟩
                  case measure => simp [intOf]; omega
              · by_cases g3 : ekd = 3
                · subst g3
                  have hst2 : Hid (lawA l y (evs.drop j) = (lawfulV l y ea && lawA l y (evs.drop (j + 1)))) := Lib.hid (by rw [hst.out]; rfl)
                  have hq : Hid (lawfulV l y ea = lawfulV l ⟨th, kd, bg, en, ck, pl, wt, some ⟨gb, goff, none⟩, dc, evs⟩ ea) := Lib.hid (by rw [HY.out])
                  cases hlw : lawfulV l ⟨th, kd, bg, en, ck, pl, wt, some ⟨gb, goff, none⟩, dc, evs⟩ ea
                  · have hF : Hid (res = ((k : Int), 17)) := Lib.hid (HBAD.out (by rw [hV.out, hst2.out, hq.out, hlw]; rfl))
                    clear hst hst2 hV hq hE0
                    go_wp2_with fail
                    refine wp_region_L (l := 18) (S := (OwS w1 V 3 ea b (off + k * 8) th kd bg en ck pl wt (.slice (some ⟨gb, goff, none⟩) evs.length dc))) (by kernel_rfl) ?_ (fun hHeld => ?_)
                    · ((try dsimp only); (exact HS.out _ (Below.refl _ _).drew))
                    refine wpAnyL_take (i := 0) (oi := _) (v := ?v39) rfl (by kernel_rfl) (fun _ _ _ h => h) (by assumption) (Or.inl ⟨by kernel_rfl, ?y39⟩) ?r39
                    case y39 => (intro w hSw; (try dsimp only at hSw); go_simp; all_goals with_reducible rfl)
                    try simp only [Act.put, List.setIfInBounds_toArray, List.set_cons_zero, List.set_cons_succ]
                    refine wpAnyL_take (i := 1) (oi := _) (v := ?v40) rfl (by kernel_rfl) (fun _ _ _ h => h) (by assumption) (Or.inl ⟨by kernel_rfl, ?y40⟩) ?r40
                    case y40 => (intro w hSw; (try dsimp only at hSw); go_simp; all_goals with_reducible rfl)
                    try simp only [Act.put, List.setIfInBounds_toArray, List.set_cons_zero, List.set_cons_succ]
                    refine wpAnyL_take (i := 2) (oi := _) (v := ?v41) rfl (by kernel_rfl) (fun _ _ _ h => h) (by assumption) (Or.inl ⟨by kernel_rfl, ?y41⟩) ?r41
                    case y41 => (intro w hSw; (try dsimp only at hSw); go_simp; all_goals with_reducible rfl)
                    try simp only [Act.put, List.setIfInBounds_toArray, List.set_cons_zero, List.set_cons_succ]
                    refine wpAnyL_take (i := 3) (oi := _) (v := ?v42) rfl (by kernel_rfl) (fun _ _ _ h => h) (by assumption) (Or.inl ⟨by kernel_rfl, ?y42⟩) ?r42
                    case y42 => (intro w hSw; (try dsimp only at hSw); go_simp; all_goals with_reducible rfl)
                    try simp only [Act.put, List.setIfInBounds_toArray, List.set_cons_zero, List.set_cons_succ]
                    refine wpAnyL_take (i := 4) (oi := _) (v := ?v43) rfl (by kernel_rfl) (fun _ _ _ h => h) (by assumption) (Or.inl ⟨by kernel_rfl, ?y43⟩) ?r43
                    case y43 => (intro w hSw; (try dsimp only at hSw); go_simp; all_goals with_reducible rfl)
                    try simp only [Act.put, List.setIfInBounds_toArray, List.set_cons_zero, List.set_cons_succ]
                    refine wpAnyL_take (i := 5) (oi := _) (v := ?v44) rfl (by kernel_rfl) (fun _ _ _ h => h) (by assumption) (Or.inl ⟨by kernel_rfl, ?y44⟩) ?r44
                    case y44 => (intro w hSw; (try dsimp only at hSw); go_simp; all_goals with_reducible rfl)
                    try simp only [Act.put, List.setIfInBounds_toArray, List.set_cons_zero, List.set_cons_succ]
                    refine wpAnyL_take (i := 6) (oi := _) (v := ?v45) rfl (by kernel_rfl) (fun _ _ _ h => h) (by assumption) (Or.inl ⟨by kernel_rfl, ?y45⟩) ?r45
                    case y45 => (intro w hSw; (try dsimp only at hSw); go_simp; all_goals with_reducible rfl)
                    try simp only [Act.put, List.setIfInBounds_toArray, List.set_cons_zero, List.set_cons_succ]
                    refine wpAnyL_take (i := 7) (oi := _) (v := ?v46) rfl (by kernel_rfl) (fun _ _ _ h => h) (by assumption) (Or.inl ⟨by kernel_rfl, ?y46⟩) ?r46
                    case y46 => (intro w hSw; (try dsimp only at hSw); go_simp; all_goals with_reducible rfl)
                    try simp only [Act.put, List.setIfInBounds_toArray, List.set_cons_zero, List.set_cons_succ]
                    refine wpAnyL_take (i := 8) (oi := _) (v := ?v47) rfl (by kernel_rfl) (fun _ _ _ h => h) (by assumption) (Or.inl ⟨by kernel_rfl, ?y47⟩) ?r47
                    case y47 => (intro w hSw; (try dsimp only at hSw); go_simp; all_goals with_reducible rfl)
                    try simp only [Act.put, List.setIfInBounds_toArray, List.set_cons_zero, List.set_cons_succ]
                    refine wpAnyL_take (i := 9) (oi := _) (v := ?v48) rfl (by kernel_rfl) (fun _ _ _ h => h) (by assumption) (Or.inl ⟨by kernel_rfl, ?y48⟩) ?r48
                    case y48 => (intro w hSw; (try dsimp only at hSw); go_simp; all_goals with_reducible rfl)
                    try simp only [Act.put, List.setIfInBounds_toArray, List.set_cons_zero, List.set_cons_succ]
                    refine wpAnyL_take (i := 10) (oi := _) (v := ?v49) rfl (by kernel_rfl) (fun _ _ _ h => h) (by assumption) (Or.inl ⟨by kernel_rfl, ?y49⟩) ?r49
                    case y49 => (intro w hSw; (try dsimp only at hSw); go_simp; all_goals with_reducible rfl)
                    try simp only [Act.put, List.setIfInBounds_toArray, List.set_cons_zero, List.set_cons_succ]
                    refine wpAnyL_take (i := 11) (oi := _) (v := ?v50) rfl (by kernel_rfl) (fun _ _ _ h => h) (by assumption) (Or.inl ⟨by kernel_rfl, ?y50⟩) ?r50
                    case y50 => (intro w hSw; (try dsimp only at hSw); go_simp; all_goals with_reducible rfl)
                    try simp only [Act.put, List.setIfInBounds_toArray, List.set_cons_zero, List.set_cons_succ]
                    refine wpAnyL_take (i := 12) (oi := _) (v := ?v51) rfl (by kernel_rfl) (fun _ _ _ h => h) (by assumption) (Or.inl ⟨by kernel_rfl, ?y51⟩) ?r51
                    case y51 => (intro w hSw; (try dsimp only at hSw); go_simp; all_goals with_reducible rfl)
                    try simp only [Act.put, List.setIfInBounds_toArray, List.set_cons_zero, List.set_cons_succ]
                    refine wpAnyL_take (i := 13) (oi := _) (v := ?v52) rfl (by kernel_rfl) (fun _ _ _ h => h) (by assumption) (Or.inl ⟨by kernel_rfl, ?y52⟩) ?r52
                    case y52 => (intro w hSw; (try dsimp only at hSw); go_simp; all_goals with_reducible rfl)
                    try simp only [Act.put, List.setIfInBounds_toArray, List.set_cons_zero, List.set_cons_succ]
                    refine wpAnyL_take (i := 14) (oi := _) (v := ?v53) rfl (by kernel_rfl) (fun _ _ _ h => h) (by assumption) (Or.inl ⟨by kernel_rfl, ?y53⟩) ?r53
                    case y53 => (intro w hSw; (try dsimp only at hSw); go_simp; all_goals with_reducible rfl)
                    try simp only [Act.put, List.setIfInBounds_toArray, List.set_cons_zero, List.set_cons_succ]
                    refine wpAnyL_take (i := 15) (oi := _) (v := ?v54) rfl (by kernel_rfl) (fun _ _ _ h => h) (by assumption) (Or.inl ⟨by kernel_rfl, ?y54⟩) ?r54
                    case y54 => (intro w hSw; (try dsimp only at hSw); go_simp; all_goals with_reducible rfl)
                    try simp only [Act.put, List.setIfInBounds_toArray, List.set_cons_zero, List.set_cons_succ]
                    refine wpAnyL_step (j := 16) (o := _) (by kernel_rfl) rfl (fun K hK => ?_)
                    (go_simp; go_at_call 54; refine (rfLawful_any (some ⟨b, off, none⟩) c l th kd bg en ck pl wt (.slice (some ⟨gb, goff, none⟩) evs.length dc) (some ⟨gb, goff, none⟩) dc evs ea w.heap.size hn HEE.out (by omega) (by omega) _ (HAW.out _ hHeld.1) (HZW.out _ hHeld.1)).mono ?_; rintro e w4 ⟨rfl, hb4⟩; rw [hlw])
                    refine hK _ _ ?_ (fun hHeld => ?_)
                    · ((try dsimp only); (exact HS.out _ (hHeld.1.trans (hb4.mono hHeld.1.size))))
                    clear hK K
                    try simp only [Act.put, List.setIfInBounds_toArray, List.set_cons_zero, List.set_cons_succ]
                    refine wpAnyL_take (i := 17) (oi := _) (v := ?v56) rfl (by kernel_rfl) (fun _ _ _ h => h) (by assumption) (Or.inl ⟨by kernel_rfl, ?y56⟩) ?r56
                    case y56 => (intro w hSw; (try dsimp only at hSw); go_simp; all_goals with_reducible rfl)
                    try simp only [Act.put, List.setIfInBounds_toArray, List.set_cons_zero, List.set_cons_succ]
                    refine wpAnyL_last (j := 18) (o := _) (by kernel_rfl) rfl (by rfl) (by kernel_rfl) (fun K hK => ?_)
                    go_simp
                    (refine hK _ _ ?_; clear hK K)
                    try simp only [Act.put, List.setIfInBounds_toArray, List.set_cons_zero, List.set_cons_succ]
                    have hE2 := Lib.hid (HZZ.out _ hHeld.1)
                    clear hHeld
                    go_wp2_with fail
                    refine bodyPost_ret (v := .tuple #[.int .i64 k, .int .i64 17]) (by simp [results, Try.results20, go_sem]) rfl ?_
                    exact ⟨by rw [hF.out], hE2.out⟩
                  · have hF : Hid (lawA l y evs = lawA l y (evs.drop (j + 1))) := Lib.hid (by rw [hV.out, hst2.out, hq.out, hlw]; rfl)
                    clear hst hst2 hV hq hE0
                    go_wp2_with fail
                    refine wp_region_L (l := 18) (S := (OwS w1 V 3 ea b (off + k * 8) th kd bg en ck pl wt (.slice (some ⟨gb, goff, none⟩) evs.length dc))) (by kernel_rfl) ?_ (fun hHeld => ?_)
                    · ((try dsimp only); (exact HS.out _ (Below.refl _ _).drew))
                    refine wpAnyL_take (i := 0) (oi := _) (v := ?v58) rfl (by kernel_rfl) (fun _ _ _ h => h) (by assumption) (Or.inl ⟨by kernel_rfl, ?y58⟩) ?r58
                    case y58 => (intro w hSw; (try dsimp only at hSw); go_simp; all_goals with_reducible rfl)
                    try simp only [Act.put, List.setIfInBounds_toArray, List.set_cons_zero, List.set_cons_succ]
                    refine wpAnyL_take (i := 1) (oi := _) (v := ?v59) rfl (by kernel_rfl) (fun _ _ _ h => h) (by assumption) (Or.inl ⟨by kernel_rfl, ?y59⟩) ?r59
                    case y59 => (intro w hSw; (try dsimp only at hSw); go_simp; all_goals with_reducible rfl)
                    try simp only [Act.put, List.setIfInBounds_toArray, List.set_cons_zero, List.set_cons_succ]
                    refine wpAnyL_take (i := 2) (oi := _) (v := ?v60) rfl (by kernel_rfl) (fun _ _ _ h => h) (by assumption) (Or.inl ⟨by kernel_rfl, ?y60⟩) ?r60
                    case y60 => (intro w hSw; (try dsimp only at hSw); go_simp; all_goals with_reducible rfl)
                    try simp only [Act.put, List.setIfInBounds_toArray, List.set_cons_zero, List.set_cons_succ]
                    refine wpAnyL_take (i := 3) (oi := _) (v := ?v61) rfl (by kernel_rfl) (fun _ _ _ h => h) (by assumption) (Or.inl ⟨by kernel_rfl, ?y61⟩) ?r61
                    case y61 => (intro w hSw; (try dsimp only at hSw); go_simp; all_goals with_reducible rfl)
                    try simp only [Act.put, List.setIfInBounds_toArray, List.set_cons_zero, List.set_cons_succ]
                    refine wpAnyL_take (i := 4) (oi := _) (v := ?v62) rfl (by kernel_rfl) (fun _ _ _ h => h) (by assumption) (Or.inl ⟨by kernel_rfl, ?y62⟩) ?r62
                    case y62 => (intro w hSw; (try dsimp only at hSw); go_simp; all_goals with_reducible rfl)
                    try simp only [Act.put, List.setIfInBounds_toArray, List.set_cons_zero, List.set_cons_succ]
                    refine wpAnyL_take (i := 5) (oi := _) (v := ?v63) rfl (by kernel_rfl) (fun _ _ _ h => h) (by assumption) (Or.inl ⟨by kernel_rfl, ?y63⟩) ?r63
                    case y63 => (intro w hSw; (try dsimp only at hSw); go_simp; all_goals with_reducible rfl)
                    try simp only [Act.put, List.setIfInBounds_toArray, List.set_cons_zero, List.set_cons_succ]
                    refine wpAnyL_take (i := 6) (oi := _) (v := ?v64) rfl (by kernel_rfl) (fun _ _ _ h => h) (by assumption) (Or.inl ⟨by kernel_rfl, ?y64⟩) ?r64
                    case y64 => (intro w hSw; (try dsimp only at hSw); go_simp; all_goals with_reducible rfl)
                    try simp only [Act.put, List.setIfInBounds_toArray, List.set_cons_zero, List.set_cons_succ]
                    refine wpAnyL_take (i := 7) (oi := _) (v := ?v65) rfl (by kernel_rfl) (fun _ _ _ h => h) (by assumption) (Or.inl ⟨by kernel_rfl, ?y65⟩) ?r65
                    case y65 => (intro w hSw; (try dsimp only at hSw); go_simp; all_goals with_reducible rfl)
                    try simp only [Act.put, List.setIfInBounds_toArray, List.set_cons_zero, List.set_cons_succ]
                    refine wpAnyL_take (i := 8) (oi := _) (v := ?v66) rfl (by kernel_rfl) (fun _ _ _ h => h) (by assumption) (Or.inl ⟨by kernel_rfl, ?y66⟩) ?r66
                    case y66 => (intro w hSw; (try dsimp only at hSw); go_simp; all_goals with_reducible rfl)
                    try simp only [Act.put, List.setIfInBounds_toArray, List.set_cons_zero, List.set_cons_succ]
                    refine wpAnyL_take (i := 9) (oi := _) (v := ?v67) rfl (by kernel_rfl) (fun _ _ _ h => h) (by assumption) (Or.inl ⟨by kernel_rfl, ?y67⟩) ?r67
                    case y67 => (intro w hSw; (try dsimp only at hSw); go_simp; all_goals with_reducible rfl)
                    try simp only [Act.put, List.setIfInBounds_toArray, List.set_cons_zero, List.set_cons_succ]
                    refine wpAnyL_take (i := 10) (oi := _) (v := ?v68) rfl (by kernel_rfl) (fun _ _ _ h => h) (by assumption) (Or.inl ⟨by kernel_rfl, ?y68⟩) ?r68
                    case y68 => (intro w hSw; (try dsimp only at hSw); go_simp; all_goals with_reducible rfl)
                    try simp only [Act.put, List.setIfInBounds_toArray, List.set_cons_zero, List.set_cons_succ]
                    refine wpAnyL_take (i := 11) (oi := _) (v := ?v69) rfl (by kernel_rfl) (fun _ _ _ h => h) (by assumption) (Or.inl ⟨by kernel_rfl, ?y69⟩) ?r69
                    case y69 => (intro w hSw; (try dsimp only at hSw); go_simp; all_goals with_reducible rfl)
                    try simp only [Act.put, List.setIfInBounds_toArray, List.set_cons_zero, List.set_cons_succ]
                    refine wpAnyL_take (i := 12) (oi := _) (v := ?v70) rfl (by kernel_rfl) (fun _ _ _ h => h) (by assumption) (Or.inl ⟨by kernel_rfl, ?y70⟩) ?r70
                    case y70 => (intro w hSw; (try dsimp only at hSw); go_simp; all_goals with_reducible rfl)
                    try simp only [Act.put, List.setIfInBounds_toArray, List.set_cons_zero, List.set_cons_succ]
                    refine wpAnyL_take (i := 13) (oi := _) (v := ?v71) rfl (by kernel_rfl) (fun _ _ _ h => h) (by assumption) (Or.inl ⟨by kernel_rfl, ?y71⟩) ?r71
                    case y71 => (intro w hSw; (try dsimp only at hSw); go_simp; all_goals with_reducible rfl)
                    try simp only [Act.put, List.setIfInBounds_toArray, List.set_cons_zero, List.set_cons_succ]
                    refine wpAnyL_take (i := 14) (oi := _) (v := ?v72) rfl (by kernel_rfl) (fun _ _ _ h => h) (by assumption) (Or.inl ⟨by kernel_rfl, ?y72⟩) ?r72
                    case y72 => (intro w hSw; (try dsimp only at hSw); go_simp; all_goals with_reducible rfl)
                    try simp only [Act.put, List.setIfInBounds_toArray, List.set_cons_zero, List.set_cons_succ]
                    refine wpAnyL_take (i := 15) (oi := _) (v := ?v73) rfl (by kernel_rfl) (fun _ _ _ h => h) (by assumption) (Or.inl ⟨by kernel_rfl, ?y73⟩) ?r73
                    case y73 => (intro w hSw; (try dsimp only at hSw); go_simp; all_goals with_reducible rfl)
                    try simp only [Act.put, List.setIfInBounds_toArray, List.set_cons_zero, List.set_cons_succ]
                    refine wpAnyL_step (j := 16) (o := _) (by kernel_rfl) rfl (fun K hK => ?_)
                    (go_simp; go_at_call 54; refine (rfLawful_any (some ⟨b, off, none⟩) c l th kd bg en ck pl wt (.slice (some ⟨gb, goff, none⟩) evs.length dc) (some ⟨gb, goff, none⟩) dc evs ea w.heap.size hn HEE.out (by omega) (by omega) _ (HAW.out _ hHeld.1) (HZW.out _ hHeld.1)).mono ?_; rintro e w4 ⟨rfl, hb4⟩; rw [hlw])
                    refine hK _ _ ?_ (fun hHeld => ?_)
                    · ((try dsimp only); (exact HS.out _ (hHeld.1.trans (hb4.mono hHeld.1.size))))
                    clear hK K
                    try simp only [Act.put, List.setIfInBounds_toArray, List.set_cons_zero, List.set_cons_succ]
                    refine wpAnyL_take (i := 17) (oi := _) (v := ?v75) rfl (by kernel_rfl) (fun _ _ _ h => h) (by assumption) (Or.inl ⟨by kernel_rfl, ?y75⟩) ?r75
                    case y75 => (intro w hSw; (try dsimp only at hSw); go_simp; all_goals with_reducible rfl)
                    try simp only [Act.put, List.setIfInBounds_toArray, List.set_cons_zero, List.set_cons_succ]
                    refine wpAnyL_last (j := 18) (o := _) (by kernel_rfl) rfl (by rfl) (by kernel_rfl) (fun K hK => ?_)
                    go_simp
                    (refine hK _ _ ?_; clear hK K)
                    try simp only [Act.put, List.setIfInBounds_toArray, List.set_cons_zero, List.set_cons_succ]
                    have hE2 := Lib.hid (HZZ.out _ hHeld.1)
                    clear hHeld
                    go_wp2_with fail
                    go_roundw
                    case rel => exact ⟨j + 1, by go_num, by omega, hF, hE2⟩
                    case measure => simp [intOf]; omega
                · have t1 : (ekd == 2) = false := by simpa using g2
                  have t2 : (ekd == 3) = false := by simpa using g3
                  have t3 : decide (ekd = 2) = false := by simpa using g2
                  have t4 : decide (ekd = 3) = false := by simpa using g3
                  have hF : Hid (lawA l y evs = lawA l y (evs.drop (j + 1))) := Lib.hid (by rw [hV.out, hst.out, if_neg (by omega)]; rfl)
                  clear hst hV hE0 g2 g3 hev
                  go_wp2_with fail
                  refine wp_region_L (l := 18) (S := (OwS w1 V ekd ea b (off + k * 8) th kd bg en ck pl wt (.slice (some ⟨gb, goff, none⟩) evs.length dc))) (by kernel_rfl) ?_ (fun hHeld => ?_)
                  · ((try dsimp only); (exact HS.out _ (Below.refl _ _).drew))
                  refine wpAnyL_take (i := 0) (oi := _) (v := ?v77) rfl (by kernel_rfl) (fun _ _ _ h => h) (by assumption) (Or.inl ⟨by kernel_rfl, ?y77⟩) ?r77
                  case y77 => (intro w hSw; (try dsimp only at hSw); go_simp; all_goals with_reducible rfl)
                  try simp only [Act.put, List.setIfInBounds_toArray, List.set_cons_zero, List.set_cons_succ]
                  refine wpAnyL_take (i := 1) (oi := _) (v := ?v78) rfl (by kernel_rfl) (fun _ _ _ h => h) (by assumption) (Or.inl ⟨by kernel_rfl, ?y78⟩) ?r78
                  case y78 => (intro w hSw; (try dsimp only at hSw); go_simp; all_goals with_reducible rfl)
                  try simp only [Act.put, List.setIfInBounds_toArray, List.set_cons_zero, List.set_cons_succ]
                  refine wpAnyL_take (i := 2) (oi := _) (v := ?v79) rfl (by kernel_rfl) (fun _ _ _ h => h) (by assumption) (Or.inl ⟨by kernel_rfl, ?y79⟩) ?r79
                  case y79 => (intro w hSw; (try dsimp only at hSw); go_simp; all_goals with_reducible rfl)
                  try simp only [Act.put, List.setIfInBounds_toArray, List.set_cons_zero, List.set_cons_succ]
                  refine wpAnyL_take (i := 3) (oi := _) (v := ?v80) rfl (by kernel_rfl) (fun _ _ _ h => h) (by assumption) (Or.inl ⟨by kernel_rfl, ?y80⟩) ?r80
                  case y80 => (intro w hSw; (try dsimp only at hSw); go_simp; all_goals with_reducible rfl)
                  try simp only [Act.put, List.setIfInBounds_toArray, List.set_cons_zero, List.set_cons_succ]
                  refine wpAnyL_take (i := 4) (oi := _) (v := ?v81) rfl (by kernel_rfl) (fun _ _ _ h => h) (by assumption) (Or.inl ⟨by kernel_rfl, ?y81⟩) ?r81
                  case y81 => (intro w hSw; (try dsimp only at hSw); go_simp; all_goals with_reducible rfl)
                  try simp only [Act.put, List.setIfInBounds_toArray, List.set_cons_zero, List.set_cons_succ]
                  refine wpAnyL_take (i := 5) (oi := _) (v := ?v82) rfl (by kernel_rfl) (fun _ _ _ h => h) (by assumption) (Or.inl ⟨by kernel_rfl, ?y82⟩) ?r82
                  case y82 => (intro w hSw; (try dsimp only at hSw); go_simp; all_goals with_reducible rfl)
                  try simp only [Act.put, List.setIfInBounds_toArray, List.set_cons_zero, List.set_cons_succ]
                  refine wpAnyL_take (i := 6) (oi := _) (v := ?v83) rfl (by kernel_rfl) (fun _ _ _ h => h) (by assumption) (Or.inl ⟨by kernel_rfl, ?y83⟩) ?r83
                  case y83 => (intro w hSw; (try dsimp only at hSw); go_simp; all_goals with_reducible rfl)
                  try simp only [Act.put, List.setIfInBounds_toArray, List.set_cons_zero, List.set_cons_succ]
                  refine wpAnyL_take (i := 7) (oi := _) (v := ?v84) rfl (by kernel_rfl) (fun _ _ _ h => h) (by assumption) (Or.inl ⟨by kernel_rfl, ?y84⟩) ?r84
                  case y84 => (intro w hSw; (try dsimp only at hSw); go_simp; all_goals with_reducible rfl)
                  try simp only [Act.put, List.setIfInBounds_toArray, List.set_cons_zero, List.set_cons_succ]
                  refine wpAnyL_take (i := 8) (oi := _) (v := ?v85) rfl (by kernel_rfl) (fun _ _ _ h => h) (by assumption) (Or.inl ⟨by kernel_rfl, ?y85⟩) ?r85
                  case y85 => (intro w hSw; (try dsimp only at hSw); go_simp; all_goals with_reducible rfl)
                  try simp only [Act.put, List.setIfInBounds_toArray, List.set_cons_zero, List.set_cons_succ]
                  refine wpAnyL_take (i := 9) (oi := _) (v := undef) rfl (by kernel_rfl) (fun _ _ _ h => h) (by assumption) (Or.inr ⟨by kernel_rfl, rfl⟩) ?_
                  try simp only [Act.put, List.setIfInBounds_toArray, List.set_cons_zero, List.set_cons_succ]
                  refine wpAnyL_take (i := 10) (oi := _) (v := undef) rfl (by kernel_rfl) (fun _ _ _ h => h) (by assumption) (Or.inr ⟨by kernel_rfl, rfl⟩) ?_
                  try simp only [Act.put, List.setIfInBounds_toArray, List.set_cons_zero, List.set_cons_succ]
                  refine wpAnyL_take (i := 11) (oi := _) (v := undef) rfl (by kernel_rfl) (fun _ _ _ h => h) (by assumption) (Or.inr ⟨by kernel_rfl, rfl⟩) ?_
                  try simp only [Act.put, List.setIfInBounds_toArray, List.set_cons_zero, List.set_cons_succ]
                  refine wpAnyL_take (i := 12) (oi := _) (v := undef) rfl (by kernel_rfl) (fun _ _ _ h => h) (by assumption) (Or.inr ⟨by kernel_rfl, rfl⟩) ?_
                  try simp only [Act.put, List.setIfInBounds_toArray, List.set_cons_zero, List.set_cons_succ]
                  refine wpAnyL_take (i := 13) (oi := _) (v := undef) rfl (by kernel_rfl) (fun _ _ _ h => h) (by assumption) (Or.inr ⟨by kernel_rfl, rfl⟩) ?_
                  try simp only [Act.put, List.setIfInBounds_toArray, List.set_cons_zero, List.set_cons_succ]
                  refine wpAnyL_take (i := 14) (oi := _) (v := undef) rfl (by kernel_rfl) (fun _ _ _ h => h) (by assumption) (Or.inr ⟨by kernel_rfl, rfl⟩) ?_
                  try simp only [Act.put, List.setIfInBounds_toArray, List.set_cons_zero, List.set_cons_succ]
                  refine wpAnyL_take (i := 15) (oi := _) (v := undef) rfl (by kernel_rfl) (fun _ _ _ h => h) (by assumption) (Or.inr ⟨by kernel_rfl, rfl⟩) ?_
                  try simp only [Act.put, List.setIfInBounds_toArray, List.set_cons_zero, List.set_cons_succ]
                  refine wpAnyL_take (i := 16) (oi := _) (v := undef) rfl (by kernel_rfl) (fun _ _ _ h => h) (by assumption) (Or.inr ⟨by kernel_rfl, rfl⟩) ?_
                  try simp only [Act.put, List.setIfInBounds_toArray, List.set_cons_zero, List.set_cons_succ]
                  refine wpAnyL_take (i := 17) (oi := _) (v := undef) rfl (by kernel_rfl) (fun _ _ _ h => h) (by assumption) (Or.inr ⟨by kernel_rfl, rfl⟩) ?_
                  try simp only [Act.put, List.setIfInBounds_toArray, List.set_cons_zero, List.set_cons_succ]
                  refine wpAnyL_last (j := 18) (o := _) (by kernel_rfl) rfl (by rfl) (by kernel_rfl) (fun K hK => ?_)
                  go_simp
                  (refine hK _ _ ?_; clear hK K)
                  try simp only [Act.put, List.setIfInBounds_toArray, List.set_cons_zero, List.set_cons_succ]
                  have hE2 := Lib.hid (HZZ.out _ hHeld.1)
                  clear hHeld
                  go_wp2_with fail
                  go_roundw
                  case rel => exact ⟨j + 1, by go_num, by omega, hF, hE2⟩
                  case measure => simp [intOf]; omega
            · have hF : Hid (res = failV 17 (firstNot (ownB l) (k + 1) (l.length - (k + 1)))) := Lib.hid (HGOOD.out (by rw [hV.out, List.drop_eq_nil_of_le (by omega)]; rfl))
              clear hV
              go_wp2_with fail
              go_roundw
              case rel => exact ⟨k + 1, by go_num, by omega, hF, hWj⟩
              case measure => simp [intOf]; omega
      · have hF : Hid (res = (0, 0)) := Lib.hid (by rw [hV.out, show l.length - k = 0 by omega]; rfl)
        clear hV
        go_wp2_with fail
        refine bodyPost_ret (v := .tuple #[.int .i64 0, .int .i64 0]) (by simp [results, Try.results20, go_sem]) rfl ?_
        exact ⟨by rw [hF.out], hW.out⟩
  · have HE : Hid (oownV l = (0, checkedV l)) := Lib.hid (by unfold oownV; rw [if_neg hck])
    have HN : Hid (∀ z, z = checkedV l → (z != 0) = true ∧ decide (z = 0) = false) := Lib.hid (fun z hz => by subst hz; simp [hck])
    obtain ⟨z, hz⟩ : ∃ z, checkedV l = z := ⟨_, rfl⟩
    rw [hz] at HE HC HN
    rw [HE.out]
    clear hck HE hz
    go_enter Try.func20, Try.ntmps20
    go_wp2_with fail
    refine (HC.out _ (Below.refl _ _)).mono ?_
    rintro e w0 ⟨rfl, hb1⟩
    have HB0 := Lib.hid hb1
    obtain ⟨t1, t2⟩ := HN.out _ rfl
    clear hb1 HN
    go_wp2_with fail
    refine bodyPost_ret (v := .tuple #[.int .i64 0, .int .i64 z]) (by simp [results, Try.results20, go_sem]) rfl ?_
    exact ⟨rfl, HB0.out⟩
end Go.Proofs.Ytjaegddnikkibaa
