/-
  The document's reading of lines and words, walked.
-/
import Derived.Test.YtkkcngppmhebbaaGreatDoorAsmFields
import Derived.Test.YtkkcngppmhebbaaGreatDoorRowKit
import Derived.Test.YtkkcngppmhebbaaGreatDoorCopyRow
import Derived.Lib.Hide
import Derived.WalkKit
import Derived.Laws.AppendOwn
import Derived.Deep.AppendLies
set_option linter.unusedVariables false
set_option linter.unusedSimpArgs false
namespace Go.Proofs.YtkkcngppmhebbaaGreatDoor
open Go.RowKit

abbrev strVs (ws : List (List UInt8)) : List Value := ws.map fun x => Value.string ⟨x.toArray⟩
theorem extract_list (s : List UInt8) (a b : Nat) : (⟨s.toArray⟩ : ByteArray).extract a b = ⟨((s.drop a).take (b - a)).toArray⟩ := by
  apply ByteArray.ext
  simp [ByteArray.data_extract, List.extract_eq_take_drop]
theorem extract_drop (s : List UInt8) (a : Nat) : (⟨s.toArray⟩ : ByteArray).extract a s.length = ⟨(s.drop a).toArray⟩ := by
  rw [extract_list, List.take_of_length_le (by simp)]
theorem own_fromS {W : World} {B e k n : Nat} {v : Value} {xs : List Value} (h : W.ownsRow B e k v n xs) : ∀ g, v.ownBlock = some g → B ≤ g := fun g hg => by
  rcases h.2 with ⟨rfl, hn⟩ | ⟨g', cap, cur, rfl, hB, r⟩
  · cases hg
  · injection hg with hg; subst hg; exact hB
theorem own_alloc {W : World} {B e k n : Nat} {v : Value} {xs : List Value} (h : W.ownsRow B e k v n xs) (o : Obj) : (W.alloc o).ownsRow B e k v n xs := h.alloc o
theorem strInfo : (Tryz.prog.info? 9).map (fun i => (i.zero, i.size, i.bytes)) = some (some (.string ⟨#[]⟩), 1, 16) := by kernel_rfl
theorem wpList_append_s {H : Nat} {w : World} {ops : Array Oper} {rest : List Oper} {o : Oper} {a : Act} {Q : Exit → Act → World → Prop} (hgd : o.guard = none) (s x : Operand)
    (ho : o.op = .call { callee := .builtin .append, args := #[s, x], argTypes := #[64, 64] })
    (v : Value) (l : List (List UInt8)) (hs : a.eval s = v) (hrow : w.ownsRow H 9 1 v l.length (strVs l)) (ad : Addr) (c : Nat) (hx : a.eval x = .slice (some ad) 1 c) (y : List UInt8)
    (hnews : ∀ j u, ([Value.string ⟨y.toArray⟩] : List Value)[j]? = some u → w.cell? (ad.add j) = some u) (hb : (l ++ [y]).length ≤ 1000000000) (hbase : H ≤ w.heap.size)
    (h : ∀ v' w', w'.ownsRow H 9 1 v' (l ++ [y]).length (strVs (l ++ [y])) → w.grownBy w' v.ownBlock → wpList Tryz.prog ops Q rest (a.put o.dst v') w') : wpList Tryz.prog ops Q (o :: rest) a w := by
  obtain ⟨i0, hi0, hz0, hz1, hz2⟩ := info_parts strInfo
  have hb' : l.length + 1 ≤ 1000000000 := by simpa using hb
  refine wpList_append_own w hgd s x 64 ho H 9 i0 (.string ⟨#[]⟩) 1 16 Tryz.underlying64 hi0 hz0 hz1 hz2 rfl (by decide) v l.length _ hs hrow ad 1 c [.string ⟨y.toArray⟩] hx (by simp) hnews (by simp [Value.oneCell']) (by unfold maxLen; omega) (by omega) hbase ?_
  intro v' w' ho' hg _
  refine h v' w' ?_ hg
  rw [List.length_append]
  simpa [strVs] using ho'
theorem news_s (W : World) (x : List UInt8) : ∀ j u, ([Value.string ⟨x.toArray⟩] : List Value)[j]? = some u → (W.alloc (.cells #[.string ⟨x.toArray⟩] 9 (0, 0))).cell? ((⟨W.heap.size, 0, none⟩ : Addr).add j) = some u := World.news_of_block (heap_alloc_new W _)
/-- the words so far -/
structure WdSt (H : Nat) (w : World) (n : Nat) (acc : List (List UInt8)) (v : Value) (W : World) : Prop where
  row : W.ownsRow H 9 1 v acc.length (strVs acc)
  bel : Below H w W
  le : H ≤ W.heap.size
  few : acc.length ≤ n
theorem flush_cur {cur : List UInt8} (h : cur ≠ []) : flushV cur = [cur] := by
  unfold flushV
  cases cur with
  | nil => exact absurd rfl h
  | cons _ _ => rfl
theorem cur_more (L : List UInt8) (f i : Nat) (hf : f ≤ i) (hi : i < L.length) : (L.drop f).take (i + 1 - f) = (L.drop f).take (i - f) ++ [L[i]] := by
  rw [show i + 1 - f = (i - f) + 1 by omega, List.take_succ_eq_append_getElem (by rw [List.length_drop]; omega), List.getElem_drop]
  congr 3
  omega
theorem cur_ne (L : List UInt8) (f i : Nat) (hf : f < i) (hi : i ≤ L.length) : (L.drop f).take (i - f) ≠ [] := by
  intro e
  have := congrArg List.length e
  simp at this
  omega
theorem cur_nil (L : List UInt8) (i : Nat) : (L.drop i).take (i - i) = [] := by rw [Nat.sub_self, List.take_zero]

set_option maxHeartbeats 8000000 in
set_option maxRecDepth 100000 in
theorem words_any (L : List UInt8) (hL : L.length ≤ 65536) (w : World) :
    Calls Tryz.prog 18 #[.string ⟨L.toArray⟩] w fun e w' => ∃ v, e = .returned v ∧ w'.ownsRow w.heap.size 9 1 v (wordsV L).length (strVs (wordsV L)) ∧ Below w.heap.size w w' := by
  obtain ⟨R, hR⟩ : ∃ R, wordsV L = R := ⟨_, rfl⟩
  rw [hR]
  have HR := Lib.hid hR
  have hsz : (⟨L.toArray⟩ : ByteArray).size = L.length := by simp [ByteArray.size]
  have HLen := Lib.hid hL
  obtain ⟨H, hH⟩ : ∃ H, w.heap.size = H := ⟨_, rfl⟩
  have HS0 : Hid (WdSt H w 0 [] (.slice none 0 0) w) := Lib.hid ⟨World.ownsRow_nil _ _ _ _, by rw [← hH]; exact Below.refl _ _, by omega, Nat.le_refl _⟩
  rw [hH]
  clear hR hL hH
  go_enter Tryz.func18, Tryz.ntmps18
  go_wp2_with fail
  go_loopw [3, 4, 5] (fun v fr ii wr => ∃ (i f : Nat) (acc : List (List UInt8)), ii = .int .i64 i ∧ fr = .int .i64 f ∧ i ≤ L.length + 1 ∧ f ≤ i ∧ Hid (WdSt H w i acc v wr) ∧ Hid ((i ≤ L.length → acc ++ wordsGo ((L.drop f).take (i - f)) (L.drop i) = R) ∧ (¬ i ≤ L.length → acc = R))) (fun _ _ ii _ => L.length + 1 - (intOf ii).toNat)
  case atStart => exact ⟨0, 0, [], rfl, rfl, by omega, Nat.le_refl _, HS0, Lib.hid ⟨fun _ => by rw [← HR.out]; rfl, fun h => absurd (Nat.zero_le _) h⟩⟩
  case round =>
    obtain ⟨i, f, acc, rfl, rfl, hi, hfi, hS, hE⟩ := hrel
    clear HS0
    have p5 : (i : Int) ≤ 65537 := by have := HLen.out; omega
    by_cases hle : i ≤ L.length
    · have hE1 := Lib.hid (hE.out.1 hle)
      have p1 : (i : Int) ≤ (L.length : Int) := by omega
      have p2 : (0 : Int) ≤ (i : Int) := Int.natCast_nonneg _
      have p3 : (0 : Int) ≤ (f : Int) := Int.natCast_nonneg _
      have p4 : (f : Int) ≤ (i : Int) := by omega
      have hx := extract_list L f i
      obtain ⟨cur, hcur⟩ : ∃ cur, (L.drop f).take (i - f) = cur := ⟨_, rfl⟩
      rw [hcur] at hx hE1
      have HC := Lib.hid hcur
      clear hE hcur
      by_cases hend : i = L.length
      · have t1 : ((i : Int) == (L.length : Int)) = true := by rw [hend]; exact beq_self_eq_true _
        have hR1 : Hid (acc ++ flushV cur = R) := Lib.hid (by have h := hE1.out; rw [hend, List.drop_length, wordsGo] at h; exact h)
        by_cases hfe : f < i
        · have t2 : (f : Int) < (i : Int) := by omega
          have hR2 : Hid (¬ i + 1 ≤ L.length → acc ++ [cur] = R) := Lib.hid fun _ => by
            rw [← hR1.out, flush_cur (by rw [← HC.out]; exact cur_ne L f i hfe (by omega))]
          have t3 : ¬ (i : Int) < (L.length : Int) := by omega
          have hel : ¬ i + 1 ≤ L.length := by omega
          clear hE1 hend
          go_wp2_with (at_builtin; refine wpList_append_s rfl _ _ rfl _ acc rfl (own_alloc hS.out.row _) ⟨_, 0, none⟩ 1 rfl cur (news_s _ _) ?c2 ?c3 ?_)
          case c2 => have := hS.out.few; have := HLen.out; first | omega | (simp only [List.length_append, List.length_cons, List.length_nil]; omega)
          case c3 => have := hS.out.le; simp; omega
          intro v2 w2 hr hg
          have HO2 : Hid (w2.ownsRow H 9 1 v2 (acc ++ [cur]).length ((acc ++ [cur]).map fun x => Value.string ⟨x.toArray⟩)) := Lib.hid (by first | (simp only [List.length_append, List.length_cons, List.length_nil, Nat.zero_add]; exact hr) | simpa using hr)
          have HB2 : Hid (Below H w w2 ∧ H ≤ w2.heap.size) := Lib.hid ⟨(hS.out.bel.alloc hS.out.le _).grown hg (by have := hS.out.le; simp; omega) (own_fromS hS.out.row), by have := hS.out.le; have := hg.size; simp at this; omega⟩
          clear hr hg
          have S2 : Hid (WdSt H w (i + 1) (acc ++ [cur]) v2 w2) := Lib.hid ⟨HO2.out, HB2.out.1, HB2.out.2, by have := hS.out.few; simp; omega⟩
          go_wp2_with fail
          go_roundw
          case rel => exact ⟨i + 1, i + 1, acc ++ [cur], by go_num, rfl, by omega, by omega, S2, (Lib.hid ⟨fun h => absurd h hel, hR2.out⟩)⟩
          case measure => simp [intOf]; omega
        · obtain rfl : f = i := by omega
          have t2 : ¬ (f : Int) < (f : Int) := by omega
          have t3 : ¬ (f : Int) < (L.length : Int) := by omega
          have hR2 : Hid (¬ f + 1 ≤ L.length → acc = R) := Lib.hid fun _ => by
            have h := hR1.out
            rw [← HC.out, cur_nil] at h
            simpa [flushV] using h
          have S2 : Hid (WdSt H w (f + 1) acc _ _) := Lib.hid ⟨hS.out.row, hS.out.bel, hS.out.le, by have := hS.out.few; omega⟩
          have hel : ¬ f + 1 ≤ L.length := by omega
          clear hE1 hend
          go_wp2_with fail
          go_roundw
          case rel => exact ⟨f + 1, f + 1, acc, by go_num, by go_num, by omega, by omega, S2, Lib.hid ⟨fun h => absurd h hel, hR2.out⟩⟩
          case measure => simp [intOf]; omega
      · have hlt : i < L.length := by omega
        have t1 : ((i : Int) == (L.length : Int)) = false := by simp only [beq_eq_false_iff_ne]; omega
        have hdrop : L.drop i = L[i] :: L.drop (i + 1) := List.drop_eq_getElem_cons hlt
        have hget : ∀ h, ((⟨L.toArray⟩ : ByteArray)[i]'h) = L[i] := fun h => rfl
        have hmore := Lib.hid (cur_more L f i hfi hlt)
        rw [HC.out] at hmore
        obtain ⟨b, hbb⟩ : ∃ b, L[i] = b := ⟨_, rfl⟩
        simp only [hbb] at hget hmore
        have hE2 := Lib.hid hE1.out
        rw [hdrop, hbb, wordsGo] at hE2
        have p6 : i < (⟨L.toArray⟩ : ByteArray).size := by rw [hsz]; exact hlt
        have p7 : (i : Int) < (L.length : Int) := by omega
        clear hE1 hdrop hbb
        by_cases h35 : b = 35
        · subst h35
          have hE3 : Hid (acc ++ flushV cur = R) := Lib.hid (by have h := hE2.out; rw [if_pos rfl] at h; exact h)
          by_cases hfe : f < i
          · have t2 : (f : Int) < (i : Int) := by omega
            have hR2 : Hid (acc ++ [cur] = R) := Lib.hid (by rw [← hE3.out, flush_cur (by rw [← HC.out]; exact cur_ne L f i hfe (by omega))])
            obtain rfl := hR2.out
            clear hE2 hE3 hR2
            go_wp2_with (at_builtin; refine wpList_append_s rfl _ _ rfl _ acc rfl (own_alloc hS.out.row _) ⟨_, 0, none⟩ 1 rfl cur (news_s _ _) ?c2 ?c3 ?_)
            case c2 => have := hS.out.few; have := HLen.out; first | omega | (simp only [List.length_append, List.length_cons, List.length_nil]; omega)
            case c3 => have := hS.out.le; simp; omega
            intro v2 w2 hr hg
            have HO2 : Hid (w2.ownsRow H 9 1 v2 (acc ++ [cur]).length ((acc ++ [cur]).map fun x => Value.string ⟨x.toArray⟩)) := Lib.hid (by first | (simp only [List.length_append, List.length_cons, List.length_nil, Nat.zero_add]; exact hr) | simpa using hr)
            have HB2 : Hid (Below H w w2 ∧ H ≤ w2.heap.size) := Lib.hid ⟨(hS.out.bel.alloc hS.out.le _).grown hg (by have := hS.out.le; simp; omega) (own_fromS hS.out.row), by have := hS.out.le; have := hg.size; simp at this; omega⟩
            clear hr hg
            go_wp2_with fail
            go_ret
            exact ⟨_, rfl, HO2.out, HB2.out.1⟩
          · obtain rfl : f = i := by omega
            have t2 : ¬ (f : Int) < (f : Int) := by omega
            have hR2 : Hid (acc = R) := Lib.hid (by
              have h := hE3.out
              rw [← HC.out, cur_nil] at h
              simpa [flushV] using h)
            obtain rfl := hR2.out
            clear hE2 hE3 hR2
            go_wp2_with fail
            go_ret
            exact ⟨_, rfl, hS.out.row, hS.out.bel⟩
        · have f35 : ((b.toNat : Int) == 35) = false := by simp only [beq_eq_false_iff_ne]; intro e; exact h35 (UInt8.toNat_inj.1 (by exact_mod_cast e))
          by_cases hbl : b = 32 ∨ b = 9
          · have hE3 : Hid (acc ++ (flushV cur ++ wordsGo [] (L.drop (i + 1))) = R) := Lib.hid (by have h := hE2.out; rw [if_neg h35, if_pos hbl] at h; exact h)
            by_cases hfe : f < i
            · have t2 : (f : Int) < (i : Int) := by omega
              have hR2 : Hid (i + 1 ≤ L.length → (acc ++ [cur]) ++ wordsGo ((L.drop (i + 1)).take (i + 1 - (i + 1))) (L.drop (i + 1)) = R) := Lib.hid fun _ => by
                rw [← hE3.out, flush_cur (by rw [← HC.out]; exact cur_ne L f i hfe (by omega)), cur_nil]; simp
              rcases hbl with rfl | rfl
              · clear hE2 hE3
                go_wp2_with (at_builtin; refine wpList_append_s rfl _ _ rfl _ acc rfl (own_alloc hS.out.row _) ⟨_, 0, none⟩ 1 rfl cur (news_s _ _) ?c2 ?c3 ?_)
                case c2 => have := hS.out.few; have := HLen.out; first | omega | (simp only [List.length_append, List.length_cons, List.length_nil]; omega)
                case c3 => have := hS.out.le; simp; omega
                intro v2 w2 hr hg
                have HO2 : Hid (w2.ownsRow H 9 1 v2 (acc ++ [cur]).length ((acc ++ [cur]).map fun x => Value.string ⟨x.toArray⟩)) := Lib.hid (by first | (simp only [List.length_append, List.length_cons, List.length_nil, Nat.zero_add]; exact hr) | simpa using hr)
                have HB2 : Hid (Below H w w2 ∧ H ≤ w2.heap.size) := Lib.hid ⟨(hS.out.bel.alloc hS.out.le _).grown hg (by have := hS.out.le; simp; omega) (own_fromS hS.out.row), by have := hS.out.le; have := hg.size; simp at this; omega⟩
                clear hr hg
                have S2 : Hid (WdSt H w (i + 1) (acc ++ [cur]) v2 w2) := Lib.hid ⟨HO2.out, HB2.out.1, HB2.out.2, by have := hS.out.few; simp; omega⟩
                go_wp2_with fail
                go_roundw
                case rel => exact ⟨i + 1, i + 1, acc ++ [cur], by go_num, rfl, by omega, by omega, S2, (Lib.hid ⟨hR2.out, fun h => absurd (by omega) h⟩)⟩
                case measure => simp [intOf]; omega
              · have f32 : (((9 : UInt8).toNat : Int) == 32) = false := by decide
                clear hE2 hE3
                go_wp2_with (at_builtin; refine wpList_append_s rfl _ _ rfl _ acc rfl (own_alloc hS.out.row _) ⟨_, 0, none⟩ 1 rfl cur (news_s _ _) ?c2 ?c3 ?_)
                case c2 => have := hS.out.few; have := HLen.out; first | omega | (simp only [List.length_append, List.length_cons, List.length_nil]; omega)
                case c3 => have := hS.out.le; simp; omega
                intro v2 w2 hr hg
                have HO2 : Hid (w2.ownsRow H 9 1 v2 (acc ++ [cur]).length ((acc ++ [cur]).map fun x => Value.string ⟨x.toArray⟩)) := Lib.hid (by first | (simp only [List.length_append, List.length_cons, List.length_nil, Nat.zero_add]; exact hr) | simpa using hr)
                have HB2 : Hid (Below H w w2 ∧ H ≤ w2.heap.size) := Lib.hid ⟨(hS.out.bel.alloc hS.out.le _).grown hg (by have := hS.out.le; simp; omega) (own_fromS hS.out.row), by have := hS.out.le; have := hg.size; simp at this; omega⟩
                clear hr hg
                have S2 : Hid (WdSt H w (i + 1) (acc ++ [cur]) v2 w2) := Lib.hid ⟨HO2.out, HB2.out.1, HB2.out.2, by have := hS.out.few; simp; omega⟩
                go_wp2_with fail
                go_roundw
                case rel => exact ⟨i + 1, i + 1, acc ++ [cur], by go_num, rfl, by omega, by omega, S2, (Lib.hid ⟨hR2.out, fun h => absurd (by omega) h⟩)⟩
                case measure => simp [intOf]; omega
            · obtain rfl : f = i := by omega
              have t2 : ¬ (f : Int) < (f : Int) := by omega
              have hR2 : Hid (f + 1 ≤ L.length → acc ++ wordsGo ((L.drop (f + 1)).take (f + 1 - (f + 1))) (L.drop (f + 1)) = R) := Lib.hid fun _ => by
                have h := hE3.out
                rw [← HC.out, cur_nil] at h
                rw [cur_nil]
                simpa [flushV] using h
              have S2 : Hid (WdSt H w (f + 1) acc _ _) := Lib.hid ⟨hS.out.row, hS.out.bel, hS.out.le, by have := hS.out.few; omega⟩
              rcases hbl with rfl | rfl
              · clear hE2 hE3
                go_wp2_with fail
                go_roundw
                case rel => exact ⟨f + 1, f + 1, acc, by go_num, by go_num, by omega, by omega, S2, Lib.hid ⟨hR2.out, fun h => absurd (by omega) h⟩⟩
                case measure => simp [intOf]; omega
              · clear hE2 hE3
                go_wp2_with fail
                go_roundw
                case rel => exact ⟨f + 1, f + 1, acc, by go_num, by go_num, by omega, by omega, S2, Lib.hid ⟨hR2.out, fun h => absurd (by omega) h⟩⟩
                case measure => simp [intOf]; omega
          · have f32 : ((b.toNat : Int) == 32) = false := by simp only [beq_eq_false_iff_ne]; intro e; exact hbl (.inl (UInt8.toNat_inj.1 (by exact_mod_cast e)))
            have f9 : ((b.toNat : Int) == 9) = false := by simp only [beq_eq_false_iff_ne]; intro e; exact hbl (.inr (UInt8.toNat_inj.1 (by exact_mod_cast e)))
            have hR2 : Hid (i + 1 ≤ L.length → acc ++ wordsGo ((L.drop f).take (i + 1 - f)) (L.drop (i + 1)) = R) := Lib.hid fun _ => by
              have h := hE2.out
              rw [if_neg h35, if_neg hbl] at h
              rw [hmore.out]; exact h
            have S2 : Hid (WdSt H w (i + 1) acc _ _) := Lib.hid ⟨hS.out.row, hS.out.bel, hS.out.le, by have := hS.out.few; omega⟩
            clear hE2
            go_wp2_with fail
            go_roundw
            case rel => exact ⟨i + 1, f, acc, by go_num, rfl, by omega, by omega, S2, Lib.hid ⟨hR2.out, fun h => absurd (by omega) h⟩⟩
            case measure => simp [intOf]; omega
    · have hR1 := Lib.hid (hE.out.2 hle)
      have p1 : ¬ (i : Int) ≤ (L.length : Int) := by omega
      obtain rfl := hR1.out
      clear hE hR1
      go_wp2_with fail
      go_ret
      exact ⟨_, rfl, hS.out.row, hS.out.bel⟩
end Go.Proofs.YtkkcngppmhebbaaGreatDoor
