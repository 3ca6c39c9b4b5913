/-
  Package asm: the shapes, the words, labels, registers.
-/
import Derived.Test.YtkkcngppmhebbaaGreatDoorIsaEncode
import Derived.Lib.ConvBytes
import Derived.WalkLawsBesides
import Derived.WalkSpells
set_option linter.unusedVariables false
set_option linter.unusedSimpArgs false
namespace Go.Proofs.YtkkcngppmhebbaaGreatDoor
open Go.RowKit

/-- what stands behind an instruction's word -/
def partsV (k : Int) : List UInt8 :=
  match formV k with
  | none => []
  | some f => (if f.cal then [99] else []) ++ List.replicate f.regs 114 ++ (if f.num then (if f.jump then [108] else [110]) else [])
def shapeCells (k : Nat) : List Value := [.int .u8 k, .string ⟨(kindW k).toArray⟩, .string ⟨(partsV k).toArray⟩]
def shapeRow : List Value := (List.range 15).flatMap fun i => shapeCells (i + 1)
theorem shapeRow_len : shapeRow.length = 45 := by decide +kernel
theorem shape_at (k : Nat) (h1 : 1 ≤ k) (h2 : k ≤ 15) (j : Nat) (hj : j < 3) : shapeRow[(k - 1) * 3 + j]? = (shapeCells k)[j]? := by
  rw [shapeRow, flat_at (fun i => shapeCells (i + 1)) 3 (fun _ => rfl) (List.range 15) (k - 1) j (k - 1) (by rw [List.getElem?_range (by omega)]) hj]
  rw [show k - 1 + 1 = k by omega]
theorem end_bool {a b : Bool} (h : a = b) : Ending.returned (.bool a) = .returned (.bool b) := by rw [h]

theorem shapeRow_eq : (#[.int .u8 1, .string ⟨#[115, 101, 116]⟩, .string ⟨#[114, 110]⟩, .int .u8 2, .string ⟨#[109, 111, 118, 101]⟩, .string ⟨#[114, 114]⟩, .int .u8 3, .string ⟨#[99, 97, 108, 99]⟩, .string ⟨#[99, 114, 114]⟩, .int .u8 4, .string ⟨#[108, 111, 97, 100]⟩, .string ⟨#[114, 114, 110]⟩, .int .u8 5, .string ⟨#[115, 116, 111, 114, 101]⟩, .string ⟨#[114, 114, 110]⟩, .int .u8 6, .string ⟨#[106, 117, 109, 112]⟩, .string ⟨#[108]⟩, .int .u8 7, .string ⟨#[122, 101, 114, 111]⟩, .string ⟨#[114, 108]⟩, .int .u8 8, .string ⟨#[99, 97, 115]⟩, .string ⟨#[114, 114, 114, 110]⟩, .int .u8 9, .string ⟨#[120, 97, 100, 100]⟩, .string ⟨#[114, 114, 110]⟩, .int .u8 10, .string ⟨#[102, 101, 110, 99, 101]⟩, .string ⟨#[]⟩, .int .u8 11, .string ⟨#[111, 117, 116]⟩, .string ⟨#[114]⟩, .int .u8 12, .string ⟨#[110, 111, 116, 101]⟩, .string ⟨#[114, 114, 110]⟩, .int .u8 13, .string ⟨#[116, 114, 97, 112]⟩, .string ⟨#[110]⟩, .int .u8 14, .string ⟨#[104, 97, 108, 116]⟩, .string ⟨#[]⟩, .int .u8 15, .string ⟨#[108, 111, 111, 107]⟩, .string ⟨#[114, 114, 110]⟩] : Array Value) = shapeRow.toArray := by kernel_rfl

set_option maxHeartbeats 4000000 in
set_option maxRecDepth 100000 in
theorem shapes_any (w : World) : Calls Tryz.prog 106 #[] w fun e w' => e = .returned (.slice (some ⟨w.heap.size, 0, none⟩) 15 15) ∧ w' = w.alloc (.cells shapeRow.toArray 103 (0, 0)) := by
  rw [← shapeRow_eq]
  go_enter Tryz.func106, Tryz.ntmps106
  go_wp2
  go_ret
  exact ⟨rfl, rfl⟩

def calcCells : List Value := calcWords.map fun l => .string ⟨l.toArray⟩
def calcText : List UInt8 := [97, 100, 100, 32, 115, 117, 98, 32, 109, 117, 108, 32, 100, 105, 118, 32, 109, 111, 100, 32, 97, 110, 100, 32, 111, 114, 32, 120, 111, 114, 32, 115, 104, 108, 32, 115, 104, 114, 32, 101, 113, 32, 110, 101, 32, 108, 116, 32, 108, 101]
theorem calc_fields : Lib.fields calcText = calcWords := by decide +kernel
theorem calc_ascii : ∀ (j : Nat) b, calcText[j]? = some b → b.toNat < 128 := fun j b h => by
  have : ∀ b ∈ calcText, b.toNat < 128 := by decide +kernel
  exact this b (List.mem_of_getElem? h)
set_option maxHeartbeats 4000000 in
set_option maxRecDepth 100000 in
theorem calcs_any (w : World) (G : AGlobs w) : Calls Tryz.prog 107 #[] w fun e w' => e = .returned (.slice (some ⟨w.heap.size, 0, none⟩) 14 14) ∧ w' = w.alloc (.cells calcCells.toArray 9 (0, 0)) := by
  have C : Hid (Calls Tryz.prog 181 #[.string ⟨#[97, 100, 100, 32, 115, 117, 98, 32, 109, 117, 108, 32, 100, 105, 118, 32, 109, 111, 100, 32, 97, 110, 100, 32, 111, 114, 32, 120, 111, 114, 32, 115, 104, 108, 32, 115, 104, 114, 32, 101, 113, 32, 110, 101, 32, 108, 116, 32, 108, 101]⟩] w fun e w' => e = .returned (.slice (some ⟨w.heap.size, 0, none⟩) 14 14) ∧ w' = w.alloc (.cells calcCells.toArray 9 (0, 0))) := Lib.hid (by
    have h := Tryz.strings_Fields_laid ⟨calcText.toArray⟩ w (by decide) (by simpa using calc_ascii) G.sp
    refine h.mono ?_
    rintro e w' ⟨he, hw⟩
    have e1 : Lib.fields (⟨calcText.toArray⟩ : ByteArray).data.toList = calcWords := by rw [← calc_fields]
    rw [e1] at he hw
    exact ⟨he, hw⟩)
  clear G
  go_enter Tryz.func107, Tryz.ntmps107
  go_wp2_with fail
  refine C.out.mono ?_
  rintro e w' ⟨rfl, hw⟩
  have HW := Lib.hid hw
  clear hw
  go_wp2_with fail
  go_ret
  exact ⟨rfl, HW.out⟩

theorem lowV_name {c : UInt8} (h : lowV c = true) : nameV c = true := by unfold nameV; rw [h]; rfl
theorem labelB_cons (x : UInt8) (r : List UInt8) : labelB (x :: r) = (decide ((x :: r).length ≤ 16) && lowV x && (x :: r).all nameV) := by
  unfold labelB
  dsimp only
  rw [List.all_cons]
  cases h : lowV x
  · simp
  · rw [lowV_name h]; simp

set_option maxHeartbeats 4000000 in
set_option maxRecDepth 100000 in
theorem label_any (l : List UInt8) (hl : l.length ≤ 140737488355328) (w : World) :
    Calls Tryz.prog 16 #[.string ⟨l.toArray⟩] w fun e w' => e = .returned (.bool (labelB l)) ∧ Below w.heap.size w w' := by
  obtain ⟨V, hV⟩ : ∃ V, labelB l = V := ⟨_, rfl⟩
  rw [hV]
  cases hc0 : l with
  | nil =>
    have F := Lib.hid (show false = V by rw [← hV, hc0]; rfl)
    clear hV hc0
    go_enter Tryz.func16, Tryz.ntmps16
    go_wp2_with fail
    go_ret
    exact ⟨end_bool F.out, Below.refl _ _⟩
  | cons c r =>
    have hV' : Hid ((decide (l.length ≤ 16) && lowV c && l.all nameV) = V) := Lib.hid (by rw [← hV, hc0, labelB_cons])
    have hne : (⟨(c :: r).toArray⟩ : ByteArray) = ⟨l.toArray⟩ := by rw [hc0]
    rw [hne]
    have hie : l.isEmpty = false := by rw [hc0]; rfl
    have hpos : 0 < l.length := by rw [hc0]; simp
    have hget : ∀ h, ((⟨l.toArray⟩ : ByteArray)[0]'h) = c := fun h => by subst hc0; rfl
    clear hV hc0 hne
    by_cases h16 : l.length ≤ 16
    · have t1 : decide ((16 : Int) < (l.length : Int)) = false := by simp; omega
      by_cases ha : 97 ≤ c.toNat
      · have t2 : decide ((c.toNat : Int) < 97) = false := by simp; omega
        by_cases hz : c.toNat ≤ 122
        · have t3 : decide ((122 : Int) < (c.toNat : Int)) = false := by simp; omega
          have HV : Hid (l.all nameV = V) := Lib.hid (by rw [← hV'.out]; simp [h16, lowV, ha, hz])
          have hkc := Lib.run_convert_string_bytes (P := Tryz.prog) w 9 114 5 ⟨l.toArray⟩ Tryz.underlying9 Tryz.underlying114 Tryz.underlying5
          obtain ⟨cap, hcap⟩ : ∃ cap, grownCap w (⟨l.toArray⟩ : ByteArray).size 0 5 = cap := ⟨_, rfl⟩
          obtain ⟨wb, hwb⟩ : ∃ wb, Lib.bytesWorld w 5 ⟨l.toArray⟩ = wb := ⟨_, rfl⟩
          obtain ⟨X, hX⟩ : ∃ X, w.heap.size = X := ⟨_, rfl⟩
          have HC : Hid (∀ j (h : j < l.length), wb.cell? ⟨X, j, none⟩ = some (.int .u8 (l[j].toNat : Int))) := Lib.hid fun j h => by
            have := Lib.bytesWorld_cell w 5 ⟨l.toArray⟩ j (by simpa [ByteArray.size] using h)
            rw [hwb, hX] at this
            rw [this]
            simp [List.getD, List.getElem?_eq_getElem h]
          have HBb : Hid (Below w.heap.size w wb) := Lib.hid (by rw [← hwb]; exact Lib.bytesWorld_below _ _ _)
          have hsz : (⟨l.toArray⟩ : ByteArray).size = l.length := by simp [ByteArray.size]
          rw [hcap, hwb, hX, hsz] at hkc
          clear hcap hwb hX hV' hsz
          go_enter Tryz.func16, Tryz.ntmps16
          go_wp2_with fail
          clear hget hkc t1 t2 t3 h16 ha hz hie
          go_loopw [4, 25] (fun _ i wr => ∃ k : Nat, k ≤ l.length ∧ i = .int .i64 k ∧ Hid ((l.drop k).all nameV = V) ∧ Hid (wb = wr)) (fun _ i _ => l.length - (intOf i).toNat)
          case atStart => exact ⟨0, by omega, rfl, Lib.hid (by rw [List.drop_zero]; exact HV.out), rfl⟩
          case round =>
            obtain ⟨k, hk, rfl, hH, hwr⟩ := hrel
            obtain rfl := hwr.out
            clear hwr
            by_cases hlt : k < l.length
            · have hcell := HC.out k hlt
              have hstep := Lib.hid (show (nameV l[k] && (l.drop (k + 1)).all nameV) = V by rw [← hH.out, List.drop_eq_getElem_cons hlt, List.all_cons])
              have p1 : (k : Int) < (l.length : Int) := by omega
              have p2 : (0 : Int) ≤ (k : Int) := Int.natCast_nonneg _
              clear hH
              generalize l[k] = x at *
              have HYES : Hid (nameV x = true → (l.drop (k + 1)).all nameV = V) := Lib.hid fun h => by rw [← hstep.out, h]; simp
              have HNO : Hid (nameV x = false → false = V) := Lib.hid fun h => by rw [← hstep.out, h]; rfl
              clear hstep HC HV
              by_cases q1 : x.toNat < 97
              · have g1 : decide ((x.toNat : Int) < 97) = true := by simp; omega
                by_cases q3 : x.toNat < 48
                · have g3 : decide ((x.toNat : Int) < 48) = true := by simp; omega
                  have g5 : ((x.toNat : Int) != 95) = true := by simp; omega
                  have HNO := Lib.hid (HNO.out (by
                    have : x ≠ 95 := by rintro rfl; exact absurd q3 (by decide)
                    simp [nameV, lowV, this]; omega))
                  clear q1 q3
                  clear HYES
                  go_wp2_with fail
                  go_ret
                  exact ⟨end_bool HNO.out, HBb.out⟩
                · have g3 : decide ((x.toNat : Int) < 48) = false := by simp; omega
                  by_cases q4 : 57 < x.toNat
                  · have g4 : decide ((57 : Int) < (x.toNat : Int)) = true := by simp; omega
                    by_cases q5 : x = 95
                    · have g5 : ((x.toNat : Int) != 95) = false := by rw [q5]; rfl
                      have HYES := Lib.hid (HYES.out (by rw [q5]; rfl))
                      clear q1 q3 q4 q5
                      clear HNO
                      go_wp2_with fail
                      go_roundw
                      case rel => exact ⟨k + 1, by omega, by go_num, HYES, Lib.hid trivial⟩
                      case measure => simp [intOf]; omega
                    · have g5 : ((x.toNat : Int) != 95) = true := by
                        simp only [bne_iff_ne]
                        intro e
                        exact q5 (UInt8.toNat_inj.1 (by exact_mod_cast e))
                      have HNO := Lib.hid (HNO.out (by simp [nameV, lowV, q5]; omega))
                      clear q1 q3 q4 q5
                      clear HYES
                      go_wp2_with fail
                      go_ret
                      exact ⟨end_bool HNO.out, HBb.out⟩
                  · have g4 : decide ((57 : Int) < (x.toNat : Int)) = false := by simp; omega
                    have HYES := Lib.hid (HYES.out (by simp [nameV]; omega))
                    clear q1 q3 q4
                    clear HNO
                    go_wp2_with fail
                    go_roundw
                    case rel => exact ⟨k + 1, by omega, by go_num, HYES, Lib.hid trivial⟩
                    case measure => simp [intOf]; omega
              · have g1 : decide ((x.toNat : Int) < 97) = false := by simp; omega
                by_cases q2 : 122 < x.toNat
                · have g2 : decide ((122 : Int) < (x.toNat : Int)) = true := by simp; omega
                  have g3 : decide ((x.toNat : Int) < 48) = false := by simp; omega
                  have g4 : decide ((57 : Int) < (x.toNat : Int)) = true := by simp; omega
                  have g5 : ((x.toNat : Int) != 95) = true := by simp; omega
                  have HNO := Lib.hid (HNO.out (by
                    have : x ≠ 95 := by rintro rfl; exact absurd q2 (by decide)
                    simp [nameV, lowV, this]; omega))
                  clear q1 q2
                  clear HYES
                  go_wp2_with fail
                  go_ret
                  exact ⟨end_bool HNO.out, HBb.out⟩
                · have g2 : decide ((122 : Int) < (x.toNat : Int)) = false := by simp; omega
                  have HYES := Lib.hid (HYES.out (lowV_name (by simp [lowV]; omega)))
                  clear q1 q2
                  clear HNO
                  go_wp2_with fail
                  go_roundw
                  case rel => exact ⟨k + 1, by omega, by go_num, HYES, Lib.hid trivial⟩
                  case measure => simp [intOf]; omega
            · have F := Lib.hid (show true = V by rw [← hH.out, List.drop_of_length_le (by omega)]; rfl)
              have p1 : ¬ ((k : Int) < (l.length : Int)) := by omega
              clear hH HC HV
              go_wp2_with fail
              go_ret
              exact ⟨end_bool F.out, HBb.out⟩
        · have t3 : decide ((122 : Int) < (c.toNat : Int)) = true := by simp; omega
          have F := Lib.hid (show false = V by rw [← hV'.out]; simp [lowV, hz])
          clear hV' hz ha h16
          go_enter Tryz.func16, Tryz.ntmps16
          go_wp2_with fail
          go_ret
          exact ⟨end_bool F.out, Below.refl _ _⟩
      · have t2 : decide ((c.toNat : Int) < 97) = true := by simp; omega
        have F := Lib.hid (show false = V by rw [← hV'.out]; simp [lowV, ha])
        clear hV' ha h16
        go_enter Tryz.func16, Tryz.ntmps16
        go_wp2_with fail
        go_ret
        exact ⟨end_bool F.out, Below.refl _ _⟩
    · have t1 : decide ((16 : Int) < (l.length : Int)) = true := by simp; omega
      have F := Lib.hid (show false = V by rw [← hV'.out]; simp [h16])
      clear hV' h16
      go_enter Tryz.func16, Tryz.ntmps16
      go_wp2_with fail
      go_ret
      exact ⟨end_bool F.out, Below.refl _ _⟩

def regPair (w : List UInt8) : Int × Bool := match regOf w with | some r => (r, true) | none => (0, false)
theorem end_reg {p q : Int × Bool} (h : p = q) : Ending.returned (.tuple #[.int .u8 p.1, .bool p.2]) = .returned (.tuple #[.int .u8 q.1, .bool q.2]) := by rw [h]
theorem regOf_two (x y : UInt8) : regOf [x, y] = if x = 114 ∧ 48 ≤ y.toNat ∧ y.toNat ≤ 55 then some ((y.toNat : Int) - 48) else none := rfl
theorem regOf_len {l : List UInt8} (h : l.length ≠ 2) : regOf l = none := by
  match l, h with
  | [], _ => rfl
  | [_], _ => rfl
  | [_, _], h => exact absurd rfl h
  | _ :: _ :: _ :: _, _ => rfl
theorem u8_bne {c : UInt8} {d : Nat} (hd : d < 256) (h : c ≠ UInt8.ofNat d) : ((c.toNat : Int) != (d : Int)) = true := by
  simp only [bne_iff_ne]
  intro e
  apply h
  have : c.toNat = d := by omega
  rw [← this]; simp

set_option maxHeartbeats 2000000 in
set_option maxRecDepth 100000 in
theorem register_any (l : List UInt8) (w : World) :
    Calls Tryz.prog 108 #[.string ⟨l.toArray⟩] w fun e w' => e = .returned (.tuple #[.int .u8 (regPair l).1, .bool (regPair l).2]) ∧ w = w' := by
  have hno : regOf l = none → Hid (Ending.returned (.tuple #[.int .u8 0, .bool false]) = .returned (.tuple #[.int .u8 (regPair l).1, .bool (regPair l).2])) := fun h => Lib.hid (end_reg (p := (0, false)) (by unfold regPair; rw [h]))
  by_cases h2 : l.length = 2
  · obtain ⟨x, y, rfl⟩ : ∃ x y, l = [x, y] := by
      match l, h2 with
      | [x, y], _ => exact ⟨x, y, rfl⟩
    have hget0 : ∀ h, ((⟨[x, y].toArray⟩ : ByteArray)[0]'h) = x := fun h => rfl
    have hget1 : ∀ h, ((⟨[x, y].toArray⟩ : ByteArray)[1]'h) = y := fun h => rfl
    have hyes : (x = 114 ∧ 48 ≤ y.toNat ∧ y.toNat ≤ 55) → Hid (∀ v : Int, v = (y.toNat : Int) - 48 → Ending.returned (.tuple #[.int .u8 v, .bool true]) = .returned (.tuple #[.int .u8 (regPair [x, y]).1, .bool (regPair [x, y]).2])) := fun h => Lib.hid fun v hv => by
      have e : regPair [x, y] = ((y.toNat : Int) - 48, true) := by unfold regPair; rw [regOf_two, if_pos h]
      rw [e, hv]
    rw [regOf_two] at hno
    generalize hR : regPair [x, y] = R at *
    obtain ⟨R1, R2⟩ := R
    clear hR
    dsimp only at *
    by_cases h114 : x = 114
    · have g1 : ((x.toNat : Int) != 114) = false := by rw [h114]; rfl
      by_cases h48 : 48 ≤ y.toNat
      · have g2 : decide ((y.toNat : Int) < 48) = false := by simp; omega
        by_cases h55 : y.toNat ≤ 55
        · have g3 : decide ((55 : Int) < (y.toNat : Int)) = false := by simp; omega
          have F := Lib.hid ((hyes ⟨h114, h48, h55⟩).out)
          have hw : IntKind.u8.wrap ((y.toNat : Int) - 48) = (y.toNat : Int) - 48 := by rw [IntKind.wrap_u8]; omega
          clear hno hyes h114
          go_enter Tryz.func108, Tryz.ntmps108
          go_wp2_with fail
          go_ret2
          exact ⟨F.out _ (by omega), rfl⟩
        · have g3 : decide ((55 : Int) < (y.toNat : Int)) = true := by simp; omega
          have F := hno (if_neg fun h => h55 h.2.2)
          clear hno hyes h114
          go_enter Tryz.func108, Tryz.ntmps108
          go_wp2_with fail
          go_ret2
          exact ⟨F.out, rfl⟩
      · have g2 : decide ((y.toNat : Int) < 48) = true := by simp; omega
        have F := hno (if_neg fun h => h48 h.2.1)
        clear hno hyes h114
        go_enter Tryz.func108, Tryz.ntmps108
        go_wp2_with fail
        go_ret2
        exact ⟨F.out, rfl⟩
    · have g1 : ((x.toNat : Int) != 114) = true := u8_bne (d := 114) (by decide) h114
      have F := hno (if_neg fun h => h114 h.1)
      clear hno hyes h114
      go_enter Tryz.func108, Tryz.ntmps108
      go_wp2_with fail
      go_ret2
      exact ⟨F.out, rfl⟩
  · have F := hno (regOf_len h2)
    have g0 : ((l.length : Int) != 2) = true := by simp; omega
    clear hno h2
    generalize regPair l = R at *
    obtain ⟨R1, R2⟩ := R
    dsimp only at *
    go_enter Tryz.func108, Tryz.ntmps108
    go_wp2_with fail
    go_ret2
    exact ⟨F.out, rfl⟩
end Go.Proofs.YtkkcngppmhebbaaGreatDoor
