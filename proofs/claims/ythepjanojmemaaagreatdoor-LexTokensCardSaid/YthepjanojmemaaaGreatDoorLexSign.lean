/-
  lex.sign walked. What a state of the scanner does is said by 'Stepped'.
-/
import Derived.Test.YthepjanojmemaaaGreatDoorLexScan
set_option linter.unusedVariables false
set_option linter.unusedSimpArgs false
namespace Go.Proofs.YthepjanojmemaaaGreatDoor
open Go.RowKit

def stV : St → Value
  | .blank => .func (.func 10) #[] #[]
  | .remark => .func (.func 95) #[] #[]
  | .name => .func (.func 96) #[] #[]
  | .number => .func (.func 97) #[] #[]
  | .sign => .func (.func 98) #[] #[]
  | .stop => .nilFunc
def Stepped (X : Nat) (s : List UInt8) (w : World) (r : Lx) (e : Ending) (w' : World) : Prop :=
  e = .returned (stV r.st) ∧ Below X w w' ∧ ∃ v', ScanAt X s r.at_ r.line r.toks v' w'

theorem blk_setCell1 {w : World} {X : Nat} {a b c d : Value} {T : TypeId} (h : w.heap[X]? = some (.cells #[a, b, c, d] T (0, 0))) (u : Value) :
    (w.setCell ⟨X, 1, none⟩ u).heap[X]? = some (.cells #[a, u, c, d] T (0, 0)) := by
  have hlt : X < w.heap.size := (Array.getElem?_eq_some_iff.1 h).1
  have hg : w.heap[X] = .cells #[a, b, c, d] T (0, 0) := (Array.getElem?_eq_some_iff.1 h).2
  simp [World.setCell, hlt, Array.getElem_modify, hg]
theorem blk_setCell2 {w : World} {X : Nat} {a b c d : Value} {T : TypeId} (h : w.heap[X]? = some (.cells #[a, b, c, d] T (0, 0))) (u : Value) :
    (w.setCell ⟨X, 2, none⟩ u).heap[X]? = some (.cells #[a, b, u, d] T (0, 0)) := by
  have hlt : X < w.heap.size := (Array.getElem?_eq_some_iff.1 h).1
  have hg : w.heap[X] = .cells #[a, b, c, d] T (0, 0) := (Array.getElem?_eq_some_iff.1 h).2
  simp [World.setCell, hlt, Array.getElem_modify, hg]
theorem ScanAt.set1 {X : Nat} {s : List UInt8} {at_ line : Nat} {toks : List Tok} {v : Value} {w : World} (h : ScanAt X s at_ line toks v w) (a' : Nat) :
    ScanAt X s a' line toks v (w.setCell ⟨X, 1, none⟩ (.int .i64 a')) := ⟨blk_setCell1 h.blk _, ownsRow_setCell_below h.own (by simp) _⟩
theorem ScanAt.set2 {X : Nat} {s : List UInt8} {at_ line : Nat} {toks : List Tok} {v : Value} {w : World} (h : ScanAt X s at_ line toks v w) (a' : Nat) :
    ScanAt X s at_ a' toks v (w.setCell ⟨X, 2, none⟩ (.int .i64 a')) := ⟨blk_setCell2 h.blk _, ownsRow_setCell_below h.own (by simp) _⟩
theorem ScanAt.drew {X : Nat} {s : List UInt8} {at_ line : Nat} {toks : List Tok} {v : Value} {w : World} (h : ScanAt X s at_ line toks v w) : ScanAt X s at_ line toks v w.drew := ⟨h.blk, h.own⟩

/-- put behind the place's move -/
theorem put_moved (X : Nat) (s : List UInt8) (at_ line : Nat) (k n : Int) (toks : List Tok) (v : Value) (w : World) (hs : s.length ≤ 65536) (hn0 : toks.length ≤ at_) (h2 : at_ < s.length) (hS : ScanAt X s at_ line toks v w)
    (a' : Nat) (i : Int) (hi : i = a') (h3 : at_ ≤ a') (h4 : a' ≤ s.length) :
    Calls Tryz.prog 161 #[.pointer (some ⟨X, 0, none⟩), .int .u8 k, .int .i64 at_, .int .i64 n] (w.setCell ⟨X, 1, none⟩ (.int .i64 i)).drew fun e w' =>
      e = .returned (.tuple #[]) ∧ Below X w w' ∧ ∃ v', ScanAt X s a' line (toks ++ [⟨k, (s.drop at_).take (a' - at_), n, line⟩]) v' w' := by
  subst hi
  refine (put_any X s a' line at_ k n toks v _ hs (by omega) h3 h4 (hS.set1 a').drew).mono ?_
  rintro e w' ⟨rfl, hB, v', hS'⟩
  exact ⟨rfl, ((((Below.refl X w).setCell (p := ⟨X, 1, none⟩) (Nat.le_refl _) _).drew).trans hB), v', hS'⟩

theorem index_ones (c : UInt8) (w : World) : Calls Tryz.prog 160 #[.string ⟨#[123, 125, 40, 41, 91, 93, 46, 44, 59, 61, 60, 62, 43, 45, 42, 47, 37, 33]⟩, .int .u8 c.toNat] w fun e w' =>
    ∃ r : Int, e = .returned (.int .i64 r) ∧ decide (0 ≤ r) = signOnes.contains c ∧ w' = w :=
  by
  refine (Tryz.strings_IndexByte ⟨signOnes.toArray⟩ c.toNat w).mono ?_
  rintro e w' ⟨he, hw⟩
  refine ⟨_, he, ?_, hw⟩
  have : ((c.toNat : Int).toNat).toUInt8 = c := by simp
  rw [this]
  exact indexByte_mem _ _
set_option maxHeartbeats 1000000 in
set_option maxRecDepth 100000 in
theorem sign_any (X : Nat) (s : List UInt8) (at_ line : Nat) (toks : List Tok) (v : Value) (w : World) (hs : s.length ≤ 65536) (hn0 : toks.length ≤ at_) (h2 : at_ < s.length) (hS : ScanAt X s at_ line toks v w) :
    Calls Tryz.prog 98 #[.pointer (some ⟨X, 0, none⟩)] w (Stepped X s w (signF s at_ line toks)) := by
  have c0 := cell_blk hS.blk 0
  have c1 := cell_blk hS.blk 1
  have f1 := frozen_blk hS.blk 1
  simp only [List.getElem?_toArray, List.getElem?_cons_zero, List.getElem?_cons_succ] at c0 c1
  obtain ⟨m, hm, ham, hms, hm2⟩ : ∃ m : Nat, min ((at_ : Int) + 2) (s.length : Int) = m ∧ at_ < m ∧ m ≤ s.length ∧ (s.drop at_).take (m - at_) = (s.drop at_).take 2 := by
    by_cases h : (at_ : Int) + 2 ≤ s.length
    · exact ⟨at_ + 2, by omega, by omega, by omega, by rw [show at_ + 2 - at_ = 2 by omega]⟩
    · refine ⟨s.length, by omega, h2, Nat.le_refl _, ?_⟩
      rw [List.take_of_length_le (by simp), List.take_of_length_le (by simp; omega)]
  have p1 : (0 : Int) ≤ (at_ : Int) := Int.natCast_nonneg _
  have p2 : (at_ : Int) ≤ (m : Int) := by omega
  have p3 : (m : Int) ≤ (s.length : Int) := by omega
  have p4 : (at_ : Int) < (s.length : Int) := by omega
  have hw : IntKind.i64.wrap ((at_ : Int) + 2) = at_ + 2 := by rw [IntKind.wrap_i64]; omega
  have hw1 : IntKind.i64.wrap ((at_ : Int) + 1) = at_ + 1 := by rw [IntKind.wrap_i64]; omega
  have hx := extract_list s at_ m
  rw [hm2] at hx
  have HP := Lib.hid (fun a' i hi h3 h4 => put_moved X s at_ line 4 0 toks v w hs hn0 h2 hS a' i hi h3 h4)
  have HT := Lib.hid (show (s.drop at_).take 2 = (s.drop at_).take 2 from rfl)
  have HF := Lib.hid (show signF s at_ line toks = _ from rfl)
  have HS := Lib.hid hS
  clear hm2 hS
  by_cases hp : (s.drop at_).take 2 ∈ signPairs
  · have hl2 : ((s.drop at_).take 2).length = 2 := by
      simp only [signPairs, List.mem_cons, List.not_mem_nil, or_false] at hp
      rcases hp with h | h | h | h | h | h <;> rw [h] <;> rfl
    have H2 := Lib.hid (show at_ + 2 ≤ s.length by simp at hl2; omega)
    have HE : ∀ w', (∃ v', ScanAt X s (at_ + 2) line (toks ++ [⟨4, (s.drop at_).take (at_ + 2 - at_), 0, line⟩]) v' w') → Below X w w' → Stepped X s w (signF s at_ line toks) (.returned (.func (.func 10) #[] #[])) w' := fun w' hv hB => by
      have : signF s at_ line toks = ⟨.blank, at_ + 2, line, toks ++ [⟨4, (s.drop at_).take 2, 0, line⟩]⟩ := by
        unfold signF; rw [if_pos (by simpa using hp)]
      rw [this]
      rw [show at_ + 2 - at_ = 2 by omega] at hv
      exact ⟨rfl, hB, hv⟩
    have HE := Lib.hid HE
    clear HT HF hl2
    generalize htw : (s.drop at_).take 2 = two at hp hx
    clear htw
    simp only [signPairs, List.mem_cons, List.not_mem_nil, or_false] at hp
    rcases hp with rfl | rfl | rfl | rfl | rfl | rfl
    all_goals
      go_enter Tryz.func98, Tryz.ntmps98
      go_wp2_with fail
      go_region_held3 (fun w' => w'.cell? ⟨X, 0, none⟩ = some (.string ⟨s.toArray⟩)) (go_keep) (fail)
      go_wp2_with fail
      refine (HP.out (at_ + 2) _ rfl (by omega) H2.out).mono ?_
      rintro e w' ⟨rfl, hB, hv⟩
      have HV := Lib.hid hv
      clear hv
      go_wp2_with fail
      go_ret
      exact HE.out _ HV.out hB
  · have HE : ∀ w', (∃ v', ScanAt X s (at_ + 1) line (toks ++ [⟨4, (s.drop at_).take (at_ + 1 - at_), 0, line⟩]) v' w') → Below X w w' → signOnes.contains s[at_] = true → Stepped X s w (signF s at_ line toks) (.returned (.func (.func 10) #[] #[])) w' := fun w' hv hB hc => by
      have : signF s at_ line toks = ⟨.blank, at_ + 1, line, toks ++ [⟨4, (s.drop at_).take 1, 0, line⟩]⟩ := by
        unfold signF
        rw [if_neg (by simpa using hp), if_pos (by rw [← hc]; congr 1; simp [List.getD, h2])]
      rw [this]
      rw [show at_ + 1 - at_ = 1 by omega] at hv
      exact ⟨rfl, hB, hv⟩
    have HN : signOnes.contains s[at_] = false → ∀ w', (w' = w.drew.drew ∨ w' = w.drew) → Stepped X s w (signF s at_ line toks) (.returned .nilFunc) w' := fun hc w' hw' => by
      have : signF s at_ line toks = ⟨.stop, at_, line, toks⟩ := by
        unfold signF
        rw [if_neg (by simpa using hp), if_neg (by rw [Bool.not_eq_true, ← hc]; congr 1; simp [List.getD, h2])]
      rw [this]
      rcases hw' with rfl | rfl
      · exact ⟨rfl, ((Below.refl X w).drew).drew, v, HS.out.drew.drew⟩
      · exact ⟨rfl, (Below.refl X w).drew, v, HS.out.drew⟩
    have HE := Lib.hid HE
    have HN := Lib.hid HN
    clear HT HF
    generalize htw : (s.drop at_).take 2 = two at hp hx
    clear htw
    have e0 : (two == [61, 61]) = false := by simpa using fun e => hp (by rw [e]; decide)
    have e1 : (two == [33, 61]) = false := by simpa using fun e => hp (by rw [e]; decide)
    have e2 : (two == [60, 61]) = false := by simpa using fun e => hp (by rw [e]; decide)
    have e3 : (two == [62, 61]) = false := by simpa using fun e => hp (by rw [e]; decide)
    have e4 : (two == [38, 38]) = false := by simpa using fun e => hp (by rw [e]; decide)
    have e5 : (two == [124, 124]) = false := by simpa using fun e => hp (by rw [e]; decide)
    clear hp
    have hget : ∀ h, ((⟨s.toArray⟩ : ByteArray)[at_]'h) = s[at_] := fun h => rfl
    have IX := Lib.hid (fun W => index_ones s[at_] W)
    by_cases hc : signOnes.contains s[at_] = true
    · have IX : Hid (∀ W, Calls Tryz.prog 160 #[.string ⟨#[123, 125, 40, 41, 91, 93, 46, 44, 59, 61, 60, 62, 43, 45, 42, 47, 37, 33]⟩, .int .u8 s[at_].toNat] W fun e w' => ∃ r : Int, e = Ending.returned (.int .i64 r) ∧ ¬ r < 0 ∧ w' = W) := Lib.hid (fun W => by
        refine (IX.out W).mono ?_
        rintro e w' ⟨r, he, hr, hw⟩
        rw [hc] at hr
        exact ⟨r, he, by simpa using hr, hw⟩)
      go_enter Tryz.func98, Tryz.ntmps98
      go_wp2_with fail
      go_region_held3 (fun w' => w'.cell? ⟨X, 0, none⟩ = some (.string ⟨s.toArray⟩)) (go_keep) (fail)
      go_wp2_with fail
      refine (IX.out _).mono ?_
      rintro e w' ⟨r, rfl, hr, rfl⟩
      go_wp2_with fail
      refine (HP.out (at_ + 1) _ rfl (by omega) h2).mono ?_
      rintro e w' ⟨rfl, hB, hv⟩
      have HV := Lib.hid hv
      clear hv
      go_wp2_with fail
      go_ret
      exact HE.out _ HV.out hB hc
    · have hc := Bool.eq_false_iff.2 hc
      have IX : Hid (∀ W, Calls Tryz.prog 160 #[.string ⟨#[123, 125, 40, 41, 91, 93, 46, 44, 59, 61, 60, 62, 43, 45, 42, 47, 37, 33]⟩, .int .u8 s[at_].toNat] W fun e w' => ∃ r : Int, e = Ending.returned (.int .i64 r) ∧ r < 0 ∧ w' = W) := Lib.hid (fun W => by
        refine (IX.out W).mono ?_
        rintro e w' ⟨r, he, hr, hw⟩
        rw [hc] at hr
        exact ⟨r, he, by simpa using hr, hw⟩)
      go_enter Tryz.func98, Tryz.ntmps98
      go_wp2_with fail
      go_region_held3 (fun w' => w'.cell? ⟨X, 0, none⟩ = some (.string ⟨s.toArray⟩)) (go_keep) (fail)
      go_wp2_with fail
      refine (IX.out _).mono ?_
      rintro e w' ⟨r, rfl, hr, rfl⟩
      go_wp2_with fail
      go_ret
      exact HN.out hc _ (by first | exact Or.inl rfl | exact Or.inr rfl)
end Go.Proofs.YthepjanojmemaaaGreatDoor
