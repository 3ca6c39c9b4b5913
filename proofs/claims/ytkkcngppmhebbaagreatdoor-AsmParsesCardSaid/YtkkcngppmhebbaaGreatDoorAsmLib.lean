/-
  strings.Split, Cut, FieldsFunc, CutSuffix as asm.Parse calls them.
-/
import Derived.Test.YtkkcngppmhebbaaGreatDoorAsmFields
import Derived.Test.YtkkcngppmhebbaaGreatDoorWordGlobs
import Derived.Lib.Hide
import Derived.Test.YtkkcngppmhebbaaGreatDoorShelf
set_option linter.unusedVariables false
set_option linter.unusedSimpArgs false
namespace Go.Proofs.YtkkcngppmhebbaaGreatDoor
open Go.RowKit Go.Shelf

theorem split_any (L : List UInt8) (hl : L.length ≤ 65536) (w : World) (G : AGlobs w) :
    Calls Tryz.prog 10 #[.string ⟨L.toArray⟩, .string ⟨#[10]⟩] w fun e w' => e = .returned (.slice (some ⟨w.heap.size, 0, none⟩) (linesV L).length (linesV L).length) ∧
      w' = w.alloc (.cells ((linesV L).map fun x => Value.string ⟨x.toArray⟩).toArray 9 (0, 0)) := by
  obtain ⟨m, hm⟩ := G.ml
  refine (Tryz.strings_Split ⟨L.toArray⟩ ⟨#[10]⟩ m w (by rw [size_list]; omega) hm (by decide)).mono ?_
  rintro e w' ⟨he, hw⟩
  rw [split_count] at he
  rw [split_list] at hw
  exact ⟨he, hw⟩
theorem cut_any (L : List UInt8) (hl : L.length ≤ 65536) (w : World) (G : AGlobs w) :
    Calls Tryz.prog 11 #[.string ⟨L.toArray⟩, .string ⟨#[35]⟩] w fun e w' => (∃ x b, e = .returned (.tuple #[.string ⟨(L.takeWhile (· != 35)).toArray⟩, .string x, .bool b])) ∧ ∃ n, w' = w.drewN n := by
  obtain ⟨m, hm⟩ := G.ml
  refine (Tryz.strings_Cut ⟨L.toArray⟩ ⟨#[35]⟩ m w (by rw [size_list]; omega) hm).mono ?_
  rintro e w' ⟨he, hw⟩
  have e1 : (Lib.cut (⟨L.toArray⟩ : ByteArray).data.toList (⟨#[35]⟩ : ByteArray).data.toList).1 = L.takeWhile (· != 35) := cut_byte L 35
  rw [e1] at he
  exact ⟨⟨_, _, he⟩, hw⟩
theorem blank_pred (x : Nat) (w : World) : Calls Tryz.prog 13 #[.int .i32 x] w fun e w' => e = .returned (.bool (blankR x)) ∧ ∃ q, w' = w.drewN q := by
  obtain ⟨V, hV⟩ : ∃ V, blankR x = V := ⟨_, rfl⟩
  rw [hV]
  by_cases h32 : x = 32
  · have t1 : ((x : Int) == 32) = true := by rw [h32]; rfl
    have F : Hid (true = V) := Lib.hid (by rw [← hV, h32]; rfl)
    obtain rfl := F.out
    clear h32 hV F
    go_enter Tryz.func13, Tryz.ntmps13
    go_wp2
    go_ret
    exact ⟨rfl, 0, rfl⟩
  · have t1 : ((x : Int) == 32) = false := by simp only [beq_eq_false_iff_ne]; omega
    by_cases h9 : x = 9
    · have t2 : ((x : Int) == 9) = true := by rw [h9]; rfl
      have F : Hid (true = V) := Lib.hid (by rw [← hV, h9]; rfl)
      obtain rfl := F.out
      clear h32 h9 hV F
      go_enter Tryz.func13, Tryz.ntmps13
      go_wp2
      go_ret
      exact ⟨rfl, 0, rfl⟩
    · have t2 : ((x : Int) == 9) = false := by simp only [beq_eq_false_iff_ne]; omega
      have F : Hid (false = V) := Lib.hid (by rw [← hV]; simp [blankR, h32, h9])
      obtain rfl := F.out
      clear h32 h9 hV F
      go_enter Tryz.func13, Tryz.ntmps13
      go_wp2
      go_ret
      exact ⟨rfl, 0, rfl⟩
theorem fields_any (L : List UInt8) (hl : L.length ≤ 65536) (w : World) :
    Calls Tryz.prog 12 #[.string ⟨L.toArray⟩, .func (.func 13) #[] #[]] w fun e w' => ∃ A, e = .returned (.slice (some ⟨A, 0, none⟩) (fieldsGo [] L).length (fieldsGo [] L).length) ∧
      w'.ownsRow w.heap.size 9 1 (.slice (some ⟨A, 0, none⟩) (fieldsGo [] L).length (fieldsGo [] L).length) (fieldsGo [] L).length ((fieldsGo [] L).map fun x => Value.string ⟨x.toArray⟩) ∧ Below w.heap.size w w' := by
  refine (Tryz.strings_FieldsFunc 13 #[] (enters_of Tryz.func13 (by kernel_rfl) rfl) blankR ⟨L.toArray⟩ w (by rw [size_list]; omega) (fun W x hb => blank_pred x W)).mono ?_
  rintro e w' ⟨A, he, hA, ho, hb⟩
  have e1 : (Lib.goFieldsP blankR ⟨L.toArray⟩).length = (fieldsGo [] L).length := by
    have := congrArg List.length (fieldsP_list L)
    simpa using this
  rw [e1] at he ho
  rw [fieldsP_list] at ho
  exact ⟨A, he, ho, hb⟩
theorem cutsuf_any (l : List UInt8) (hl : l.length ≤ 65536) (w : World) :
    Calls Tryz.prog 14 #[.string ⟨l.toArray⟩, .string ⟨#[58]⟩] w fun e w' => e = .returned (.tuple #[.string ⟨(if l.getLast? = some 58 then l.dropLast else l).toArray⟩, .bool (decide (l.getLast? = some 58))]) ∧ w' = w := by
  refine (Tryz.strings_CutSuffix ⟨l.toArray⟩ ⟨#[58]⟩ w (by rw [size_list]; omega)).mono ?_
  rintro e w' ⟨he, hw⟩
  have e0 : (⟨l.toArray⟩ : ByteArray).data.toList = l := rfl
  have e00 : (⟨#[58]⟩ : ByteArray).data.toList = [58] := rfl
  rw [e0, e00] at he
  have e1 : Lib.hasSuffix l [58] = decide (l.getLast? = some 58) := by
    rw [Bool.eq_iff_iff, decide_eq_true_eq]
    unfold Lib.hasSuffix
    rw [List.isSuffixOf_iff_suffix]
    constructor
    · rintro ⟨t, rfl⟩; simp
    · intro h
      obtain ⟨t, rfl⟩ := List.getLast?_eq_some_iff.1 h
      exact ⟨t, rfl⟩
  have e2 : Lib.trimSuffix l [58] = if l.getLast? = some 58 then l.dropLast else l := by
    unfold Lib.trimSuffix
    rw [e1]
    by_cases h : l.getLast? = some 58
    · rw [decide_eq_true h, if_pos rfl, if_pos h]
      simp [List.dropLast_eq_take]
    · rw [decide_eq_false h, if_neg (by decide), if_neg h]
  rw [e1, e2] at he
  exact ⟨he, hw⟩
end Go.Proofs.YtkkcngppmhebbaaGreatDoor
