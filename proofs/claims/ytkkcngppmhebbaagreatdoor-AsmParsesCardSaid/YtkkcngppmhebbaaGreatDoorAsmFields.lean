/-
  strings.FieldsFunc at blanks and tabs, strings.Cut and Split at one byte, as lists of bytes. No program in sight.
-/
import Derived.Test.YtkkcngppmhebbaaGreatDoorAsmPlain
import Derived.Lib.FieldsP
import Derived.Lib.SplitLaws
import Derived.Lib.IndexMore
import Derived.Lib.IndexBytes
import Derived.Lib.Split
set_option linter.unusedVariables false
set_option linter.unusedSimpArgs false
namespace Go.Proofs.YtkkcngppmhebbaaGreatDoor
open Go.RowKit

def blankR (x : Nat) : Bool := x == 32 || x == 9
def blankU (b : UInt8) : Bool := b == 32 || b == 9
def fieldsGo : List UInt8 → List UInt8 → List (List UInt8)
  | cur, [] => flushV cur
  | cur, b :: l => if b = 32 ∨ b = 9 then flushV cur ++ fieldsGo [] l else fieldsGo (cur ++ [b]) l
theorem words_fields : ∀ (l cur : List UInt8), wordsGo cur l = fieldsGo cur (l.takeWhile (· != 35))
  | [], cur => rfl
  | b :: l, cur => by
    rw [wordsGo]
    by_cases h : b = 35
    · subst h; simp [fieldsGo]
    · have e : (b :: l).takeWhile (· != 35) = b :: l.takeWhile (· != 35) := by simp [List.takeWhile_cons, h]
      rw [if_neg h, e, fieldsGo]
      split
      · rw [words_fields l []]
      · exact words_fields l (cur ++ [b])
theorem fieldsGo_mid : ∀ (w cur r : List UInt8), (∀ b ∈ w, 128 ≤ b.toNat) → fieldsGo cur (w ++ r) = fieldsGo (cur ++ w) r
  | [], cur, r, _ => by simp
  | b :: w, cur, r, h => by
    have hb := h b (by simp)
    have h1 : ¬ (b = 32 ∨ b = 9) := by rintro (rfl | rfl) <;> exact absurd hb (by decide)
    rw [List.cons_append, fieldsGo, if_neg h1, fieldsGo_mid w (cur ++ [b]) r (fun x hx => h x (by simp [hx]))]
    simp
/-- what lies at a place, decoded -/
theorem decode_facts (s : ByteArray) (i : Nat) (hi : i < s.size) :
    ((s.get! i).toNat < 128 ∧ Utf8.decode s i = ((s.get! i).toNat, 1)) ∨
    (128 ≤ (s.get! i).toNat ∧ 128 ≤ (Utf8.decode s i).1 ∧ 1 ≤ (Utf8.decode s i).2 ∧ i + (Utf8.decode s i).2 ≤ s.size ∧ ∀ j, j < (Utf8.decode s i).2 → 128 ≤ (s.get! (i + j)).toNat) := by
  by_cases h0 : (s.get! i).toNat < 128
  · refine .inl ⟨h0, ?_⟩
    unfold Utf8.decode
    simp only [Nat.add_zero]
    rw [if_pos h0]
  · refine .inr ⟨by omega, ?_⟩
    have one : ∀ r, 128 ≤ r → Utf8.decode s i = (r, 1) → 128 ≤ (Utf8.decode s i).1 ∧ 1 ≤ (Utf8.decode s i).2 ∧ i + (Utf8.decode s i).2 ≤ s.size ∧ ∀ j, j < (Utf8.decode s i).2 → 128 ≤ (s.get! (i + j)).toNat := fun r hr e => by
      rw [e]
      refine ⟨hr, Nat.le_refl _, hi, fun j hj => ?_⟩
      obtain rfl : j = 0 := by simpa using hj
      rw [Nat.add_zero]; omega
    have hcont : ∀ k, (decide (i + k < s.size) && (s.get! (i + k)).toNat / 64 == 2) = true → i + k < s.size ∧ 128 ≤ (s.get! (i + k)).toNat := fun k hk => by
      simp only [Bool.and_eq_true, decide_eq_true_eq, beq_iff_eq] at hk
      omega
    have hb0 : 128 ≤ (s.get! i).toNat := by omega
    by_cases h1 : ((s.get! i).toNat / 32 == 6 && (decide (i + 1 < s.size) && (s.get! (i + 1)).toNat / 64 == 2)) = true
    · have k1 := hcont 1 (by simp only [Bool.and_eq_true] at h1 ⊢; exact h1.2)
      by_cases c : ((s.get! i).toNat % 32) * 64 + (s.get! (i + 1)).toNat % 64 ≥ 0x80
      · have e : Utf8.decode s i = (((s.get! i).toNat % 32) * 64 + (s.get! (i + 1)).toNat % 64, 2) := by
          unfold Utf8.decode
          simp only [Nat.add_zero]
          rw [if_neg h0, if_pos h1, if_pos c]
        rw [e]
        refine ⟨c, by dsimp only; omega, by dsimp only; omega, fun j hj => ?_⟩
        have : j = 0 ∨ j = 1 := by have : j < 2 := hj; omega
        rcases this with rfl | rfl
        · rw [Nat.add_zero]; exact hb0
        · exact k1.2
      · exact one Utf8.runeError (by decide) (by
          unfold Utf8.decode
          simp only [Nat.add_zero]
          rw [if_neg h0, if_pos h1, if_neg c])
    · by_cases h2 : ((s.get! i).toNat / 16 == 14 && (decide (i + 1 < s.size) && (s.get! (i + 1)).toNat / 64 == 2) && (decide (i + 2 < s.size) && (s.get! (i + 2)).toNat / 64 == 2)) = true
      · have k1 := hcont 1 (by simp only [Bool.and_eq_true] at h2 ⊢; exact h2.1.2)
        have k2 := hcont 2 (by simp only [Bool.and_eq_true] at h2 ⊢; exact h2.2)
        by_cases c : (decide (((s.get! i).toNat % 16) * 4096 + ((s.get! (i + 1)).toNat % 64) * 64 + (s.get! (i + 2)).toNat % 64 ≥ 0x800) && Utf8.valid ((((s.get! i).toNat % 16) * 4096 + ((s.get! (i + 1)).toNat % 64) * 64 + (s.get! (i + 2)).toNat % 64 : Nat) : Int)) = true
        · have e : Utf8.decode s i = (((s.get! i).toNat % 16) * 4096 + ((s.get! (i + 1)).toNat % 64) * 64 + (s.get! (i + 2)).toNat % 64, 3) := by
            unfold Utf8.decode
            simp only [Nat.add_zero]
            rw [if_neg h0, if_neg h1, if_pos h2, if_pos c]
          rw [e]
          simp only [Bool.and_eq_true, decide_eq_true_eq] at c
          refine ⟨by have := c.1; dsimp only; omega, by dsimp only; omega, by dsimp only; omega, fun j hj => ?_⟩
          have : j = 0 ∨ j = 1 ∨ j = 2 := by have : j < 3 := hj; omega
          rcases this with rfl | rfl | rfl
          · rw [Nat.add_zero]; exact hb0
          · exact k1.2
          · exact k2.2
        · exact one Utf8.runeError (by decide) (by
            unfold Utf8.decode
            simp only [Nat.add_zero]
            rw [if_neg h0, if_neg h1, if_pos h2, if_neg c])
      · by_cases h3 : ((s.get! i).toNat / 8 == 30 && (decide (i + 1 < s.size) && (s.get! (i + 1)).toNat / 64 == 2) && (decide (i + 2 < s.size) && (s.get! (i + 2)).toNat / 64 == 2) && (decide (i + 3 < s.size) && (s.get! (i + 3)).toNat / 64 == 2)) = true
        · have k1 := hcont 1 (by simp only [Bool.and_eq_true] at h3 ⊢; exact h3.1.1.2)
          have k2 := hcont 2 (by simp only [Bool.and_eq_true] at h3 ⊢; exact h3.1.2)
          have k3 := hcont 3 (by simp only [Bool.and_eq_true] at h3 ⊢; exact h3.2)
          by_cases c : (decide (((s.get! i).toNat % 8) * 262144 + ((s.get! (i + 1)).toNat % 64) * 4096 + ((s.get! (i + 2)).toNat % 64) * 64 + (s.get! (i + 3)).toNat % 64 ≥ 0x10000) && Utf8.valid ((((s.get! i).toNat % 8) * 262144 + ((s.get! (i + 1)).toNat % 64) * 4096 + ((s.get! (i + 2)).toNat % 64) * 64 + (s.get! (i + 3)).toNat % 64 : Nat) : Int)) = true
          · have e : Utf8.decode s i = (((s.get! i).toNat % 8) * 262144 + ((s.get! (i + 1)).toNat % 64) * 4096 + ((s.get! (i + 2)).toNat % 64) * 64 + (s.get! (i + 3)).toNat % 64, 4) := by
              unfold Utf8.decode
              simp only [Nat.add_zero]
              rw [if_neg h0, if_neg h1, if_neg h2, if_pos h3, if_pos c]
            rw [e]
            simp only [Bool.and_eq_true, decide_eq_true_eq] at c
            refine ⟨by have := c.1; dsimp only; omega, by dsimp only; omega, by dsimp only; omega, fun j hj => ?_⟩
            have : j = 0 ∨ j = 1 ∨ j = 2 ∨ j = 3 := by have : j < 4 := hj; omega
            rcases this with rfl | rfl | rfl | rfl
            · rw [Nat.add_zero]; exact hb0
            · exact k1.2
            · exact k2.2
            · exact k3.2
          · exact one Utf8.runeError (by decide) (by
              unfold Utf8.decode
              simp only [Nat.add_zero]
              rw [if_neg h0, if_neg h1, if_neg h2, if_pos h3, if_neg c])
        · exact one Utf8.runeError (by decide) (by
            unfold Utf8.decode
            simp only [Nat.add_zero]
            rw [if_neg h0, if_neg h1, if_neg h2, if_neg h3])
theorem get_list (L : List UInt8) (i : Nat) : (⟨L.toArray⟩ : ByteArray).get! i = L.getD i 0 := by
  simp [ByteArray.get!, Array.getElem!_eq_getD, List.getD_eq_getElem?_getD]
  rfl
theorem size_list (L : List UInt8) : (⟨L.toArray⟩ : ByteArray).size = L.length := by simp [ByteArray.size]
/-- the piece that is open -/
def openW (L : List UInt8) (st : Option Nat) (pos : Nat) : List UInt8 := match st with | some a => (L.drop a).take (pos - a) | none => []
theorem open_ne (L : List UInt8) (a pos : Nat) (h : a < pos) (hp : pos ≤ L.length) : (L.drop a).take (pos - a) ≠ [] := by
  intro e
  have := congrArg List.length e
  simp at this
  omega
theorem open_more (L : List UInt8) (a pos k : Nat) (h : a ≤ pos) : (L.drop a).take (pos - a) ++ (L.drop pos).take k = (L.drop a).take (pos + k - a) := by
  rw [show pos + k - a = (pos - a) + k by omega, List.take_add, List.drop_drop, show a + (pos - a) = pos by omega]
theorem extract_bytes (L : List UInt8) (a b : Nat) : ((⟨L.toArray⟩ : ByteArray).extract a b).data.toList = (L.drop a).take (b - a) := by
  simp [ByteArray.data_extract, Array.toList_extract, List.extract]
def pieces (L : List UInt8) (l : List (Nat × Nat)) : List (List UInt8) := l.map fun x => (L.drop x.1).take (x.2 - x.1)
theorem spans_fields (L : List UInt8) : ∀ (f pos : Nat) (st : Option Nat) (acc : List (Nat × Nat)), pos ≤ L.length → L.length ≤ pos + f → (∀ a, st = some a → a < pos) →
    pieces L (Lib.closeSpans ⟨L.toArray⟩ (Lib.spansFromP blankR ⟨L.toArray⟩ f pos st acc)) = pieces L acc ++ fieldsGo (openW L st pos) (L.drop pos) := by
  intro f
  have hend : ∀ (f pos : Nat) (st : Option Nat) (acc : List (Nat × Nat)), pos = L.length → (∀ a, st = some a → a < pos) →
      pieces L (Lib.closeSpans ⟨L.toArray⟩ (Lib.spansFromP blankR ⟨L.toArray⟩ f pos st acc)) = pieces L acc ++ fieldsGo (openW L st pos) (L.drop pos) := by
    intro f pos st acc hp hst
    rw [Lib.spansFromP_end _ _ _ _ _ _ (by rw [size_list]; omega), hp, List.drop_length]
    cases st with
    | none => simp [Lib.closeSpans, openW, fieldsGo, flushV]
    | some a =>
      have hne := open_ne L a L.length (by have := hst a rfl; omega) (Nat.le_refl _)
      simp only [Lib.closeSpans, openW, fieldsGo, pieces, List.map_append, List.map_cons, List.map_nil, size_list]
      congr 1
      unfold flushV
      rw [if_neg (by simpa using hne)]
  induction f with
  | zero => intro pos st acc h1 h2 h3; exact hend 0 pos st acc (by omega) h3
  | succ f ih =>
    intro pos st acc h1 h2 h3
    by_cases hlt : pos < L.length
    · have hd : L.drop pos = L[pos] :: L.drop (pos + 1) := List.drop_eq_getElem_cons hlt
      have hg : (⟨L.toArray⟩ : ByteArray).get! pos = L[pos] := by rw [get_list, List.getD_eq_getElem?_getD, List.getElem?_eq_getElem hlt]; rfl
      rw [Lib.spansFromP.eq_def]
      dsimp only
      rw [if_pos (by rw [size_list]; exact hlt)]
      rcases decode_facts ⟨L.toArray⟩ pos (by rw [size_list]; exact hlt) with ⟨ha, hdec⟩ | ⟨ha, hr, hk, hks, hall⟩
      · rw [hdec]
        rw [hg] at ha ⊢
        dsimp only
        by_cases hb : L[pos] = 32 ∨ L[pos] = 9
        · have hp : blankR L[pos].toNat = true := by rcases hb with h | h <;> rw [h] <;> rfl
          rw [if_pos hp, hd, fieldsGo, if_pos hb]
          cases st with
          | none =>
            dsimp only
            rw [ih (pos + 1) none acc (by omega) (by omega) (fun a h => by cases h)]
            simp [openW, flushV]
          | some a =>
            dsimp only
            rw [ih (pos + 1) none _ (by omega) (by omega) (fun a h => by cases h)]
            have hne := open_ne L a pos (h3 a rfl) h1
            simp only [openW, pieces, List.map_append, List.map_cons, List.map_nil, List.append_assoc]
            congr 1
            unfold flushV
            rw [if_neg (by simpa using hne)]
        · have hp : blankR L[pos].toNat = false := by
            simp only [blankR, Bool.or_eq_false_iff, beq_eq_false_iff_ne]
            exact ⟨fun e => hb (.inl (UInt8.toNat_inj.1 e)), fun e => hb (.inr (UInt8.toNat_inj.1 e))⟩
          rw [if_neg (by rw [hp]; decide), hd, fieldsGo, if_neg hb]
          cases st with
          | none =>
            dsimp only
            rw [ih (pos + 1) (some pos) acc (by omega) (by omega) (fun a h => by injection h with h; omega)]
            simp only [openW]
            rw [show pos + 1 - pos = 1 by omega, hd]
            rfl
          | some a =>
            dsimp only
            rw [ih (pos + 1) (some a) acc (by omega) (by omega) (fun a' h => by injection h with h; have := h3 a rfl; omega)]
            simp only [openW]
            have hm := open_more L a pos 1 (by have := h3 a rfl; omega)
            rw [← hm, hd]
            rfl
      · obtain ⟨k, hke⟩ : ∃ k, (Utf8.decode ⟨L.toArray⟩ pos).2 = k := ⟨_, rfl⟩
        rw [hke] at hk hks hall ⊢
        rw [size_list] at hks
        have hp : blankR (Utf8.decode ⟨L.toArray⟩ pos).1 = false := by
          simp only [blankR, Bool.or_eq_false_iff, beq_eq_false_iff_ne]
          omega
        rw [if_neg (by rw [hp]; decide)]
        have hsplit : L.drop pos = (L.drop pos).take k ++ L.drop (pos + k) := by rw [← List.drop_drop, List.take_append_drop]
        have hmid : ∀ b ∈ (L.drop pos).take k, 128 ≤ b.toNat := fun b hb => by
          obtain ⟨j, hj, e⟩ := List.getElem_of_mem hb
          have hj1 : j < k := by simp at hj; omega
          have := hall j hj1
          rw [get_list, List.getD_eq_getElem?_getD, List.getElem?_eq_getElem (by omega)] at this
          rw [← e, List.getElem_take, List.getElem_drop]
          exact this
        rw [hsplit, fieldsGo_mid _ _ _ hmid]
        cases st with
        | none =>
          dsimp only
          rw [ih (pos + k) (some pos) acc (by omega) (by omega) (fun a h => by injection h with h; omega)]
          simp only [openW, List.nil_append]
          rw [show pos + k - pos = k by omega]
        | some a =>
          dsimp only
          rw [ih (pos + k) (some a) acc (by omega) (by omega) (fun a' h => by injection h with h; have := h3 a rfl; omega)]
          simp only [openW]
          rw [← open_more L a pos k (by have := h3 a rfl; omega)]
    · exact hend (f + 1) pos st acc (by omega) h3
/-- strings.FieldsFunc at blanks and tabs -/
theorem fieldsP_list (L : List UInt8) : (Lib.goFieldsP blankR ⟨L.toArray⟩).map Value.string = (fieldsGo [] L).map fun w => Value.string ⟨w.toArray⟩ := by
  have h := spans_fields L L.length 0 none [] (Nat.zero_le _) (by omega) (fun a h => by cases h)
  have e : Lib.goFieldsP blankR ⟨L.toArray⟩ = (pieces L (Lib.closeSpans ⟨L.toArray⟩ (Lib.spansFromP blankR ⟨L.toArray⟩ L.length 0 none []))).map fun w => ⟨w.toArray⟩ := by
    unfold Lib.goFieldsP Lib.spansOfP pieces
    rw [size_list, List.map_map]
    refine List.map_congr_left fun x _ => ?_
    have := extract_bytes L x.1 x.2
    simp only [Function.comp_def]
    rw [← this]
  rw [e, h]
  simp [pieces, openW, List.map_map, Function.comp_def]
/-! ### one byte -/
theorem index_byte : ∀ (l : List UInt8) (c : UInt8), (Lib.index l [c] = -1 ∧ c ∉ l) ∨ (∃ a b : List UInt8, Lib.index l [c] = (a.length : Int) ∧ l = a ++ c :: b ∧ c ∉ a) := by
  intro l c
  rw [Lib.index_one]
  induction l with
  | nil => exact .inl ⟨rfl, by simp⟩
  | cons x l ih =>
    by_cases h : x = c
    · subst h
      exact .inr ⟨[], l, by simp [Lib.indexByte], rfl, by simp⟩
    · rcases ih with ⟨h1, h2⟩ | ⟨a, b, h1, h2, h3⟩
      · exact .inl ⟨by simp [Lib.indexByte, h, h1], by simp [h2, Ne.symm h]⟩
      · refine .inr ⟨x :: a, b, ?_, by rw [h2]; rfl, by simp [h3, Ne.symm h]⟩
        have : ¬ ((a.length : Int) = -1) := by omega
        simp [Lib.indexByte, h, h1, this]
theorem takeWhile_all {l : List UInt8} {c : UInt8} (h : c ∉ l) : l.takeWhile (· != c) = l := by
  induction l with
  | nil => rfl
  | cons x l ih =>
    have hx : (x != c) = true := by simp only [bne_iff_ne]; intro e; exact h (by simp [e])
    rw [List.takeWhile_cons, if_pos hx, ih (fun hm => h (by simp [hm]))]
theorem takeWhile_hit {a b : List UInt8} {c : UInt8} (h : c ∉ a) : (a ++ c :: b).takeWhile (· != c) = a := by
  rw [List.takeWhile_append_of_pos (by
    intro x hx
    simp only [bne_iff_ne]
    intro e
    exact h (e ▸ hx))]
  simp
theorem cut_byte (l : List UInt8) (c : UInt8) : (Lib.cut l [c]).1 = l.takeWhile (· != c) := by
  unfold Lib.cut
  rcases index_byte l c with ⟨h1, h2⟩ | ⟨a, b, h1, h2, h3⟩
  · rw [h1, if_neg (by decide), takeWhile_all h2]
  · rw [h1, if_pos (by omega), h2, takeWhile_hit h3]
    simp
theorem lines_all (l cur : List UInt8) (h : (10 : UInt8) ∉ l) : linesGo cur l = [cur ++ l] := by
  induction l generalizing cur with
  | nil => simp [linesGo]
  | cons b l ih =>
    rw [linesGo, if_neg (fun e => h (by simp [e])), ih (cur ++ [b]) (fun hm => h (by simp [hm]))]
    simp
theorem lines_hit (a b cur : List UInt8) (h : (10 : UInt8) ∉ a) : linesGo cur (a ++ 10 :: b) = (cur ++ a) :: linesGo [] b := by
  induction a generalizing cur with
  | nil => simp [linesGo]
  | cons x a ih =>
    rw [List.cons_append, linesGo, if_neg (fun e => h (by simp [e])), ih (cur ++ [x]) (fun hm => h (by simp [hm]))]
    simp
theorem splitK_lines : ∀ (k : Nat) (l : List UInt8), l.count 10 ≤ k → Lib.splitK [10] 0 k l = linesGo [] l
  | 0, l, h => by
    have : (10 : UInt8) ∉ l := fun hm => by have := List.count_pos_iff.2 hm; omega
    rw [lines_all l [] this]
    rfl
  | k + 1, l, h => by
    rw [Lib.splitK]
    rcases index_byte l 10 with ⟨h1, h2⟩ | ⟨a, b, h1, h2, h3⟩
    · rw [if_pos (by rw [h1]; rfl), lines_all l [] h2]
      rfl
    · have hn : ¬ ((Lib.index l [10] == -1) = true) := by rw [h1]; simp only [beq_iff_eq]; omega
      rw [if_neg hn, h1, h2, lines_hit a b [] h3]
      have e1 : (a ++ 10 :: b).take ((a.length : Int).toNat + 0) = a := by simp
      have e2 : (a ++ 10 :: b).drop ((a.length : Int).toNat + [(10 : UInt8)].length) = b := by simp
      rw [e1, e2, splitK_lines k b (by
        rw [h2, List.count_append, List.count_cons_self] at h
        omega)]
      rfl
/-- strings.Split at line feeds -/
theorem split_list (L : List UInt8) : (Lib.splitB ⟨#[10]⟩ 0 (Lib.countB ⟨L.toArray⟩ ⟨#[10]⟩) ⟨L.toArray⟩).map Value.string = (linesGo [] L).map fun w => Value.string ⟨w.toArray⟩ := by
  have hc : Lib.countB ⟨L.toArray⟩ ⟨#[10]⟩ = L.count 10 := Lib.count_one 10 L
  have h := Lib.splitB_data ⟨#[10]⟩ 0 (L.count 10) ⟨L.toArray⟩
  have e : (⟨#[10]⟩ : ByteArray).data.toList = [10] := rfl
  have e2 : (⟨L.toArray⟩ : ByteArray).data.toList = L := rfl
  rw [e, e2, splitK_lines _ _ (Nat.le_refl _)] at h
  rw [hc, ← h, List.map_map]
  refine List.map_congr_left fun x _ => ?_
  simp
theorem split_count (L : List UInt8) : Lib.countB ⟨L.toArray⟩ ⟨#[10]⟩ + 1 = (linesGo [] L).length := by
  have hc : Lib.countB ⟨L.toArray⟩ ⟨#[10]⟩ = L.count 10 := Lib.count_one 10 L
  rw [hc]
  have : ∀ (l cur : List UInt8), l.count 10 + 1 = (linesGo cur l).length := fun l => by
    induction l with
    | nil => intro cur; rfl
    | cons b l ih =>
      intro cur
      rw [linesGo]
      split
      · next h => subst h; rw [List.count_cons_self, List.length_cons, ← ih []]
      · next h => rw [List.count_cons_of_ne h, ih (cur ++ [b])]
  exact this L []
end Go.Proofs.YtkkcngppmhebbaaGreatDoor
