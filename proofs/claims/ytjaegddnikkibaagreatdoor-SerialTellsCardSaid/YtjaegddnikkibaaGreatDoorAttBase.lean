/-
  Attempts and events in memory.
-/
import Derived.Test.YtjaegddnikkibaaGreatDoorProg
import Derived.Test.YtjaegddnikkibaaGreatDoorOpaquePlain
import Derived.WalkKit
import Derived.WalkLawsBesides
import Derived.WalkSpells
import Derived.Deep.QuietTactic
import Derived.BigQuiet
import Derived.Lib.Hide
set_option linter.unusedVariables false
set_option linter.unusedSimpArgs false
namespace Go.Proofs.YtjaegddnikkibaaGreatDoor
open Go.RowKit

def Ev.cells (e : Ev) : List Value := [.int .i64 e.th, .int .u8 e.kd, .int .i64 e.a, .int .i64 e.b]
def Att.cells (x : Att) : List Value := [.int .i64 x.th, .int .u8 x.kd, .int .i64 x.bg, .int .i64 x.en, .int .i64 x.ck, .int .i64 x.pl, .bool x.wr, .slice x.dA x.evs.length x.dc]


/-- an event, an attempt at a place of memory -/
structure EvAt (w : World) (b o : Nat) (e : Ev) : Prop where
  c0 : w.cell? ⟨b, o, none⟩ = some (.int .i64 e.th)
  c1 : w.cell? ⟨b, o + 1, none⟩ = some (.int .u8 e.kd)
  c2 : w.cell? ⟨b, o + 2, none⟩ = some (.int .i64 e.a)
  c3 : w.cell? ⟨b, o + 3, none⟩ = some (.int .i64 e.b)
structure AttAt (w : World) (b o : Nat) (x : Att) : Prop where
  c0 : w.cell? ⟨b, o, none⟩ = some (.int .i64 x.th)
  c1 : w.cell? ⟨b, o + 1, none⟩ = some (.int .u8 x.kd)
  c2 : w.cell? ⟨b, o + 2, none⟩ = some (.int .i64 x.bg)
  c3 : w.cell? ⟨b, o + 3, none⟩ = some (.int .i64 x.en)
  c4 : w.cell? ⟨b, o + 4, none⟩ = some (.int .i64 x.ck)
  c5 : w.cell? ⟨b, o + 5, none⟩ = some (.int .i64 x.pl)
  c6 : w.cell? ⟨b, o + 6, none⟩ = some (.bool x.wr)
  c7 : w.cell? ⟨b, o + 7, none⟩ = some (.slice x.dA x.evs.length x.dc)
/-- a slice's events lie below block B -/
def EvsAt (w : World) (B : Nat) (A : Option Addr) (es : List Ev) : Prop :=
  es ≠ [] → ∃ b off, A = some ⟨b, off, none⟩ ∧ b < B ∧ ∀ k e, es[k]? = some e → EvAt w b (off + k * 4) e
structure AttsAt (w : World) (B : Nat) (A : Option Addr) (l : List Att) : Prop where
  row : l ≠ [] → ∃ b off, A = some ⟨b, off, none⟩ ∧ b < B ∧ ∀ k x, l[k]? = some x → AttAt w b (off + k * 8) x
  evs : ∀ x ∈ l, EvsAt w B x.dA x.evs

theorem EvAt.keep {w w' : World} {b o : Nat} {e : Ev} (h : EvAt w b o e) (hk : ∀ o', w'.cell? ⟨b, o', none⟩ = w.cell? ⟨b, o', none⟩) : EvAt w' b o e :=
  ⟨(hk _).trans h.c0, (hk _).trans h.c1, (hk _).trans h.c2, (hk _).trans h.c3⟩
theorem AttAt.keep {w w' : World} {b o : Nat} {x : Att} (h : AttAt w b o x) (hk : ∀ o', w'.cell? ⟨b, o', none⟩ = w.cell? ⟨b, o', none⟩) : AttAt w' b o x :=
  ⟨(hk _).trans h.c0, (hk _).trans h.c1, (hk _).trans h.c2, (hk _).trans h.c3, (hk _).trans h.c4, (hk _).trans h.c5, (hk _).trans h.c6, (hk _).trans h.c7⟩
theorem EvsAt.keep {w w' : World} {B B' : Nat} {A : Option Addr} {es : List Ev} (h : EvsAt w B A es) (hb : Below B w w') (hB : B ≤ B') : EvsAt w' B' A es := fun hne => by
  obtain ⟨b, off, e, hlt, hc⟩ := h hne
  exact ⟨b, off, e, by omega, fun k e he => (hc k e he).keep fun o' => hb.cell (p := ⟨b, o', none⟩) hlt⟩
theorem AttsAt.keep {w w' : World} {B B' : Nat} {A : Option Addr} {l : List Att} (h : AttsAt w B A l) (hb : Below B w w') (hB : B ≤ B') : AttsAt w' B' A l :=
  ⟨fun hne => by
    obtain ⟨b, off, e, hlt, hc⟩ := h.row hne
    exact ⟨b, off, e, by omega, fun k x hx => (hc k x hx).keep fun o' => hb.cell (p := ⟨b, o', none⟩) hlt⟩, fun x hx => (h.evs x hx).keep hb hB⟩

/-- numbers fit their kinds; lists are not too long -/
def i64ok (n : Int) : Prop := -9223372036854775808 ≤ n ∧ n ≤ 9223372036854775807
structure Ev.Ok (e : Ev) : Prop where
  th : i64ok e.th
  kd : 0 ≤ e.kd ∧ e.kd ≤ 255
  a : i64ok e.a
  b : i64ok e.b
structure Att.Ok (x : Att) : Prop where
  th : i64ok x.th
  kd : 0 ≤ x.kd ∧ x.kd ≤ 255
  bg : i64ok x.bg
  en : i64ok x.en
  ck : i64ok x.ck
  pl : i64ok x.pl
  len : x.evs.length ≤ 35184372088832
  evs : ∀ e ∈ x.evs, e.Ok

/-- what a list of attempts leaves of a bound -/
def sizeFrom : Int → List Att → Int
  | left, [] => left
  | left, x :: r => if left < 0 then left else sizeFrom (left - 1 - x.evs.length) r
theorem sizeFrom_neg {left : Int} (h : left < 0) : ∀ (l : List Att), sizeFrom left l = left
  | [] => rfl
  | x :: r => by rw [sizeFrom, if_pos h]
theorem sizeFrom_le : ∀ (l : List Att) (left : Int), sizeFrom left l ≤ left
  | [], left => Int.le_refl _
  | x :: r, left => by
    unfold sizeFrom
    split
    · omega
    · have := sizeFrom_le r (left - 1 - x.evs.length); omega
theorem sizeFrom_total : ∀ (l : List Att) (left : Int), 0 ≤ left → (sizeFrom left l < 0 ↔ left < totalSize l) ∧ (¬ sizeFrom left l < 0 → sizeFrom left l = left - totalSize l)
  | [], left, h => by simp [sizeFrom, totalSize]
  | x :: r, left, h => by
    unfold sizeFrom totalSize
    rw [if_neg (by omega)]
    by_cases h2 : left - 1 - (x.evs.length : Int) < 0
    · rw [sizeFrom_neg h2]
      omega
    · have := sizeFrom_total r (left - 1 - x.evs.length) (by omega)
      omega

/-- AttemptsSize's answer -/
def asizeV (l : List Att) : Int := if sizeFrom 262144 l < 0 then 262145 else 262144 - sizeFrom 262144 l
theorem asizeV_le (l : List Att) : 0 ≤ asizeV l ∧ asizeV l ≤ 262145 := by
  have h := sizeFrom_le l 262144
  unfold asizeV; split <;> omega
theorem asizeV_total (l : List Att) : (262144 < asizeV l) ↔ 262144 < totalSize l := by
  have h := sizeFrom_total l 262144 (by omega)
  unfold asizeV; split <;> omega

def countedV (n : Int) : Int := if n < 0 then 262145 else 262144 - n
theorem ret_int {k : IntKind} {a b : Int} (h : a = b) : Ending.returned (.int k a) = .returned (.int k b) := by rw [h]
theorem ret_bool {a b : Bool} (h : a = b) : Ending.returned (.bool a) = .returned (.bool b) := by rw [h]

set_option maxHeartbeats 400000 in
theorem counted_any (n : Int) (h1 : -1000000000000000000 ≤ n) (h2 : n ≤ 262144) (w : World) :
    Calls Tryz.prog 20 #[.int .i64 n] w fun e w' => e = .returned (.int .i64 (countedV n)) ∧ w = w' := by
  by_cases hn : n < 0
  · rw [show countedV n = 262145 from if_pos hn]
    go_enter Tryz.func20, Tryz.ntmps20
    go_wp2
    go_ret
    exact ⟨rfl, rfl⟩
  · rw [show countedV n = 262144 - n from if_neg hn]
    go_enter Tryz.func20, Tryz.ntmps20
    go_wp2
    go_ret
    exact ⟨rfl, rfl⟩

set_option maxHeartbeats 400000 in
set_option maxRecDepth 100000 in
theorem asize_any (A : Option Addr) (c B : Nat) (l : List Att) (hn : l.length ≤ 35184372088832) (hlen : ∀ x ∈ l, x.evs.length ≤ 35184372088832) (w : World) (ha : AttsAt w B A l) :
    Calls Tryz.prog 5 #[.slice A l.length c] w fun e w' => e = .returned (.int .i64 (asizeV l)) ∧ w = w' := by
  have H := Lib.hid ha; clear ha
  have HL := Lib.hid hlen; clear hlen
  go_enter Tryz.func5, Tryz.ntmps5
  go_wp2
  go_loop [3, 4] (fun n i => ∃ (k : Nat) (left : Int), i = .int .i64 k ∧ n = .int .i64 left ∧ k ≤ l.length ∧ left ≤ 262144 ∧ -1000000000000000000 ≤ left ∧ Hid (sizeFrom left (l.drop k) = sizeFrom 262144 l)) (fun _ i => l.length - (intOf i).toNat)
  case atStart => exact ⟨0, 262144, rfl, rfl, by omega, by omega, by omega, rfl⟩
  case round =>
    obtain ⟨k, left, rfl, rfl, hk, h1, h2, h3⟩ := hrel
    by_cases hlt : k < l.length
    · by_cases hleft : left < 0
      · have h3' : sizeFrom 262144 l = left := by rw [← h3.out, sizeFrom_neg hleft]
        have F := Lib.hid (show countedV left = asizeV l by unfold asizeV countedV; rw [h3'])
        clear h3'
        go_wp2_with fail
        refine (counted_any _ h2 h1 _).mono ?_
        rintro e w' ⟨rfl, rfl⟩
        go_wp2_with fail
        go_ret
        exact ⟨ret_int F.out, rfl⟩
      · have h0 : 0 ≤ left := by omega
        clear hleft
        obtain ⟨b, off, rfl, _, hc⟩ := H.out.row (by rintro rfl; simp at hlt)
        have hx := List.getElem?_eq_getElem hlt
        have h7 := (hc k _ hx).c7
        have hl := HL.out _ (List.getElem_mem hlt)
        have h4 : Hid (sizeFrom (left - 1 - l[k].evs.length) (l.drop (k + 1)) = sizeFrom 262144 l) := by
          have h5 := h3.out
          rw [List.drop_eq_getElem_cons hlt, sizeFrom, if_neg (by omega)] at h5
          exact h5
        clear hc hx h3
        generalize l[k] = x at *
        generalize hm : x.evs.length = m at *
        clear hm
        go_wp2
        go_round
        case rel => exact ⟨k + 1, _, by go_num, rfl, by omega, by omega, by omega, h4⟩
        case measure => simp [intOf]; omega
    · have hk' : k = l.length := by omega
      have h3' : sizeFrom 262144 l = left := by rw [← h3.out, hk', List.drop_length]; rfl
      have F := Lib.hid (show countedV left = asizeV l by unfold asizeV countedV; rw [h3'])
      clear h3' hk'
      go_wp2_with fail
      refine (counted_any _ h2 h1 _).mono ?_
      rintro e w' ⟨rfl, rfl⟩
      go_wp2_with fail
      go_ret
      exact ⟨ret_int F.out, rfl⟩

set_option maxHeartbeats 400000 in
set_option maxRecDepth 100000 in
theorem beyond_any (b off c : Nat) (x : Int) (h1 : 0 ≤ x) (h2 : x ≤ 262145) (w : World) (hc : w.cell? ⟨b, off, none⟩ = some (.int .i64 x)) :
    Calls Tryz.prog 4 #[.slice (some ⟨b, off, none⟩) 1 c] w fun e w' => e = .returned (.bool (decide (262144 < x))) ∧ w = w' := by
  by_cases hx : 262144 < x
  · rw [show decide (262144 < x) = true by simpa using hx]
    go_enter Tryz.func4, Tryz.ntmps4
    go_wp2
    refine wp_loop_rounds 1 ?_
    rw [rounds_succ]
    go_wp2
    go_ret
    exact ⟨rfl, rfl⟩
  · rw [show decide (262144 < x) = false by simpa using hx]
    go_enter Tryz.func4, Tryz.ntmps4
    go_wp2
    refine wp_loop_rounds 2 ?_
    rw [rounds_succ]
    go_wp2
    rw [rounds_succ]
    go_wp2
    go_ret
    exact ⟨rfl, rfl⟩
end Go.Proofs.YtjaegddnikkibaaGreatDoor
