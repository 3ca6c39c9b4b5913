/-
  What attempts may be, walked: slices.IndexFunc, ContainsFunc, serial.may.
-/
import Derived.Test.YtjaegddnikkibaaGreatDoorMayEv
set_option linter.unusedVariables false
set_option linter.unusedSimpArgs false
namespace Go.Proofs.YtjaegddnikkibaaGreatDoor
open Go.RowKit Go.Sort

def idxE (th : Int) : Nat → List Ev → Int
  | _, [] => -1
  | k, e :: r => if evB th e then idxE th (k + 1) r else (k : Int)
theorem idxE_all (th : Int) : ∀ (es : List Ev) (k : Nat), decide (0 ≤ idxE th k es) = !es.all (evB th)
  | [], k => rfl
  | e :: r, k => by
    unfold idxE
    rw [List.all_cons]
    cases h : evB th e
    · simp only [Bool.false_eq_true, if_false, Bool.false_and, Bool.not_false, decide_eq_true_eq]
      exact Int.natCast_nonneg _
    · simp only [if_true, Bool.true_and]
      exact idxE_all th r (k + 1)
theorem idxE_step {th : Int} {es : List Ev} {k : Nat} (hk : k < es.length) : idxE th k (es.drop k) = if evB th es[k] then idxE th (k + 1) (es.drop (k + 1)) else (k : Int) := by
  rw [List.drop_eq_getElem_cons hk, idxE]

set_option maxHeartbeats 1000000 in
set_option maxRecDepth 100000 in
theorem index_any (th0 : Int) (FB TB B cap : Nat) (A : Option Addr) (es : List Ev) (hn : es.length ≤ 35184372088832) (he : ∀ e ∈ es, e.Ok) (w : World) (ha : EvsAt w B A es) (hB : B ≤ w.heap.size)
    (hf : w.cell? ⟨FB, 0, none⟩ = some (.func (.func 206) #[] #[.pointer (some ⟨TB, 0, none⟩)])) (hb : w.cell? ⟨TB, 0, none⟩ = some (.int .i64 th0)) :
    Calls Tryz.prog 207 #[.slice A es.length cap, .func (.func 189) #[] #[.pointer (some ⟨FB, 0, none⟩)]] w fun e w' => e = .returned (.int .i64 (idxE th0 0 es)) ∧ Below w.heap.size w w' := by
  have HE := Lib.hid he
  have lF := World.block_lt_of_cell? w _ hf
  have lT := World.block_lt_of_cell? w _ hb
  have HF := Lib.hid (fun w' (h : Below w.heap.size w w') => (h.cell (p := ⟨FB, 0, none⟩) lF).trans hf)
  have HT := Lib.hid (fun w' (h : Below w.heap.size w w') => (h.cell (p := ⟨TB, 0, none⟩) lT).trans hb)
  have HA := Lib.hid (fun w' (h : Below w.heap.size w w') => ha.keep (h.mono hB) (Nat.le_refl _))
  clear he ha hf hb lF lT
  go_enter Tryz.func207, Tryz.ntmps207
  go_wp2_with fail
  go_loopw [8] (fun i wr => ∃ k : Nat, i = .int .i64 k ∧ k ≤ es.length ∧ Hid (idxE th0 k (es.drop k) = idxE th0 0 es) ∧ Hid (Below w.heap.size w wr)) (fun i _ => es.length - (intOf i).toNat)
  case atStart => exact ⟨0, rfl, Nat.zero_le _, Lib.hid rfl, Lib.hid (Below.refl _ _)⟩
  case round =>
    obtain ⟨k, rfl, hk, hI, hW⟩ := hrel
    by_cases hlt : k < es.length
    · obtain ⟨b, off, rfl, _, hc⟩ := HA.out _ hW.out (by rintro rfl; simp at hlt)
      have hx := List.getElem?_eq_getElem hlt
      obtain ⟨c0, c1, c2, c3⟩ := hc k _ hx
      have hok := Lib.hid (HE.out _ (List.getElem_mem hlt))
      have hS := Lib.hid (idxE_step (th := th0) hlt)
      clear hc hx
      generalize es[k] = ev at *
      obtain ⟨eth, ekd, ea, eb⟩ := ev
      cases hev : evB th0 ⟨eth, ekd, ea, eb⟩
      · have F : Hid ((k : Int) = idxE th0 0 es) := Lib.hid (by rw [← hI.out, hS.out, hev]; rfl)
        clear hS hI
        go_wp2_with fail
        refine (may1_any th0 _ _ _ _ FB TB hok.out _ (HF.out _ hW.out) (HT.out _ hW.out)).mono ?_
        rintro e w1 ⟨rfl, hb1⟩
        have hB2 := Lib.hid (hW.out.trans (hb1.mono hW.out.size))
        clear hb1
        rw [hev]
        go_wp2_with fail
        go_ret
        exact ⟨ret_int F.out, hB2.out⟩
      · have F : Hid (idxE th0 (k + 1) (es.drop (k + 1)) = idxE th0 0 es) := Lib.hid (by rw [← hI.out, hS.out, hev]; rfl)
        clear hS hI
        go_wp2_with fail
        refine (may1_any th0 _ _ _ _ FB TB hok.out _ (HF.out _ hW.out) (HT.out _ hW.out)).mono ?_
        rintro e w1 ⟨rfl, hb1⟩
        have hB2 := Lib.hid (hW.out.trans (hb1.mono hW.out.size))
        clear hb1
        rw [hev]
        go_wp2_with fail
        go_roundw
        case rel => exact ⟨k + 1, by go_num, by omega, F, hB2⟩
        case measure => simp [intOf]; omega
    · have F : Hid ((-1 : Int) = idxE th0 0 es) := Lib.hid (by rw [← hI.out, List.drop_eq_nil_of_le (by omega)]; rfl)
      clear hI
      go_wp2_with fail
      go_ret
      exact ⟨ret_int F.out, hW.out⟩

set_option maxHeartbeats 400000 in
theorem contains_any (th0 : Int) (FB TB B cap : Nat) (A : Option Addr) (es : List Ev) (hn : es.length ≤ 35184372088832) (he : ∀ e ∈ es, e.Ok) (w : World) (ha : EvsAt w B A es) (hB : B ≤ w.heap.size)
    (hf : w.cell? ⟨FB, 0, none⟩ = some (.func (.func 206) #[] #[.pointer (some ⟨TB, 0, none⟩)])) (hb : w.cell? ⟨TB, 0, none⟩ = some (.int .i64 th0)) :
    Calls Tryz.prog 188 #[.slice A es.length cap, .func (.func 189) #[] #[.pointer (some ⟨FB, 0, none⟩)]] w fun e w' => e = .returned (.bool (!es.all (evB th0))) ∧ Below w.heap.size w w' := by
  have HC := Lib.hid (index_any th0 FB TB B cap A es hn he w ha hB hf hb)
  have hI := idxE_all th0 es 0
  clear hf hb he ha
  go_enter Tryz.func188, Tryz.ntmps188
  go_wp2_with fail
  refine HC.out.mono ?_
  rintro e w1 ⟨rfl, hb1⟩
  have hb1 := Lib.hid hb1
  go_wp2_with fail
  go_ret
  exact ⟨rfl, hb1.out⟩

/-! ### may -/
theorem attB_false {th kd bg en ck pl : Int} {wr : Bool} {dA : Option Addr} {dc : Nat} {evs : List Ev}
    (h : ¬ (0 ≤ th ∧ th < 4 ∧ kd ≤ 3 ∧ 0 ≤ bg ∧ 0 ≤ ck ∧ (kd = 0 → en = -1) ∧ (kd ≠ 0 → bg < en) ∧ (kd = 1 ∨ (pl = 0 ∧ wr = false)))) : attB ⟨th, kd, bg, en, ck, pl, wr, dA, dc, evs⟩ = false := by
  cases hx : attB ⟨th, kd, bg, en, ck, pl, wr, dA, dc, evs⟩ with
  | false => rfl
  | true =>
    refine absurd ?_ h
    unfold attB at hx
    by_cases h0 : kd = 0
    · simp only [if_pos h0, Bool.and_eq_true, Bool.or_eq_true, decide_eq_true_eq, Bool.not_eq_true'] at hx
      exact ⟨by omega, by omega, by omega, by omega, by omega, by omega, by omega, hx.1.2⟩
    · simp only [if_neg h0, Bool.and_eq_true, Bool.or_eq_true, decide_eq_true_eq, Bool.not_eq_true'] at hx
      exact ⟨by omega, by omega, by omega, by omega, by omega, by omega, by omega, hx.1.2⟩
theorem attB_rest {th kd bg en ck pl : Int} {wr : Bool} {dA : Option Addr} {dc : Nat} {evs : List Ev}
    (h : 0 ≤ th ∧ th < 4 ∧ kd ≤ 3 ∧ 0 ≤ bg ∧ 0 ≤ ck ∧ (kd = 0 → en = -1) ∧ (kd ≠ 0 → bg < en)) (hw : kd = 1 ∨ (pl = 0 ∧ wr = false)) : attB ⟨th, kd, bg, en, ck, pl, wr, dA, dc, evs⟩ = evs.all (evB th) := by
  unfold attB
  obtain ⟨h1, h2, h3, h4, h5, h6, h7⟩ := h
  by_cases h0 : kd = 0
  · have h8 := h6 h0
    rcases hw with hw | hw
    · omega
    · simp [h0, h1, h2, h4, h5, h8, hw]
  · have h8 := h7 h0
    rcases hw with hw | hw
    · simp [hw, h1, h2, h4, h5, h8]
    · simp [h0, h1, h2, h3, h4, h5, h8, hw]
theorem may_below {w w1 : World} {o0 : Obj} (h : Below (w.alloc o0).heap.size (w.alloc o0) w1) (o : Obj) : Below w.heap.size w (w1.alloc o) :=
  ((((Below.refl _ _).alloc (Nat.le_refl _) o0)).trans (h.mono (by simp))).alloc (Nat.le_trans (by simp) h.size) o
theorem may_box {w w1 : World} (x : Att) (h : Below (w.alloc (.cells #[.int .i64 x.th, .int .u8 x.kd, .int .i64 x.bg, .int .i64 x.en, .int .i64 x.ck, .int .i64 x.pl, .bool x.wr, .slice x.dA x.evs.length x.dc] 74 (0, 0))).heap.size (w.alloc (.cells #[.int .i64 x.th, .int .u8 x.kd, .int .i64 x.bg, .int .i64 x.en, .int .i64 x.ck, .int .i64 x.pl, .bool x.wr, .slice x.dA x.evs.length x.dc] 74 (0, 0))) w1) (o : Obj) : AttAt (w1.alloc o) w.heap.size 0 x := by
  have h2 : Below (w.heap.size + 1) (w.alloc (.cells #[.int .i64 x.th, .int .u8 x.kd, .int .i64 x.bg, .int .i64 x.en, .int .i64 x.ck, .int .i64 x.pl, .bool x.wr, .slice x.dA x.evs.length x.dc] 74 (0, 0))) (w1.alloc o) := (h.mono (by simp)).alloc (Nat.le_trans (by simp) h.size) o
  refine AttAt.keep (w := w.alloc (.cells #[.int .i64 x.th, .int .u8 x.kd, .int .i64 x.bg, .int .i64 x.en, .int .i64 x.ck, .int .i64 x.pl, .bool x.wr, .slice x.dA x.evs.length x.dc] 74 (0, 0))) ?_ (fun o' => h2.cell (p := ⟨w.heap.size, o', none⟩) (Nat.lt_succ_self _))
  constructor <;> simp
end Go.Proofs.YtjaegddnikkibaaGreatDoor
