import Derived.Test.YtkklogikakcanaaGreatDoorScopeF
import Derived.Test.YtkklogikakcanaaGreatDoorTreeI
import Derived.Test.YtkklogikakcanaaGreatDoorScopePlain
set_option linter.unusedVariables false
set_option linter.unusedSimpArgs false
open List renaming getElem?_toArray → sl7, getElem?_cons_zero → sl8
namespace Go.Proofs.YtkklogikakcanaaGreatDoor
open Go Go.Maps Go.RowKit
mutual
def stGood : St → Prop
 | .mk k nm t x y bd body ed els => ((k = 1 ∨ k = 7) → noEx x = true ∨ ExGood x) ∧ ((k = 2 ∨ k = 3 ∨ k = 4 ∨ k = 6 ∨ k = 8) → ExGood x) ∧ (k = 2 → ExGood y) ∧ stsGood body ∧ stsGood els
def stsGood : List St → Prop
 | [] => True
 | s :: r => stGood s ∧ stsGood r
end
theorem stsGood_mem : ∀ {l : List St} {s : St}, stsGood l → s ∈ l → stGood s
 | x :: r, s, h, hs => by
  rw [stsGood] at h
  rcases List.mem_cons.1 hs with rfl | hs
  ·exact h.1
  ·exact stsGood_mem h.2 hs
mutual
theorem chkSt_good : ∀ (s : St) (deep : Nat) (a a' : At), chkSt s deep a = .on a' → stGood s
 | .mk k nm t x y bd body ed els, deep, a, a', h => by
  rw [chkSt] at h
  cases hi : itemC deep a.it with
  | error e => rw [hi] at h; cases h
  | ok it =>
   rw [hi] at h
   dsimp only at h
   split at h
   ·cases h
   ·split at h
    ·cases h
    ·cases hx : (if k = 5 ∨ ((k = 1 ∨ k = 7) ∧ noEx x = true) then Chk.on ⟨a.p, it⟩ else chkXt x ⟨a.p, it⟩) with
     | bad p e => rw [hx] at h; cases h
     | on a1 =>
      rw [hx] at h
      dsimp only at h
      cases hy : (if k = 2 then chkXt y a1 else Chk.on a1) with
      | bad p e => rw [hy] at h; cases h
      | on a2 =>
       rw [hy] at h
       dsimp only at h
       cases hb : chkSts body (deep + 1) a2 with
       | bad p e => rw [hb] at h; cases h
       | on a3 =>
        rw [hb] at h
        rw [stGood]
        refine ⟨fun hk => ?_, fun hk => ?_, fun hk => ?_, chkSts_good body _ _ _ hb, chkSts_good els _ _ _ h⟩
        ·by_cases hn : noEx x = true
         ·exact Or.inl hn
         ·rw [if_neg (by rintro (h5 | h5); omega; exact hn h5.2)] at hx
          obtain ⟨m, hm, -⟩ := chkXt_on hx
          exact Or.inr ⟨_, _, _, hm⟩
        ·rw [if_neg (by rintro (h5 | h5); omega; omega)] at hx
         obtain ⟨m, hm, -⟩ := chkXt_on hx
         exact ⟨_, _, _, hm⟩
        ·rw [if_pos hk] at hy
         obtain ⟨m, hm, -⟩ := chkXt_on hy
         exact ⟨_, _, _, hm⟩
theorem chkSts_good : ∀ (l : List St) (deep : Nat) (a a' : At), chkSts l deep a = .on a' → stsGood l
 | [], _, _, _, _ => by rw [stsGood]; trivial
 | s :: r, deep, a, a', h => by
  obtain ⟨a1, h1, h2⟩ := chkSts_on h
  rw [stsGood]
  exact ⟨chkSt_good s _ _ _ h1, chkSts_good r _ _ _ h2⟩
end
abbrev Kq (Pb : Nat) : World → World → Prop := Kept (fun k => k = Pb)
structure ScP (B Kb Rb Fb Sb Pb : Nat) (p : Pr) (q : Int) (w : World) : Prop where
 sc : ScIs B Kb Rb Fb Sb p w
 num : NumG B w
 pl : PlAt Pb q w
 hB : B ≤ Pb
 h1 : Pb ≠ Kb
 h2 : Pb ≠ Rb
 h3 : Pb ≠ Fb
 h4 : Pb ≠ Sb
section
variable {B Kb Rb Fb Sb Pb : Nat} {p : Pr} {q q2 : Int} {w w' : World} {a : Option Addr} {l : Lc}
theorem ScP.blw (h : ScP B Kb Rb Fb Sb Pb p q w) (hk : Kq Pb w w') : Below B w w' := Kept.below hk h.sc.le (fun k hh => by rw [hh]; exact h.hB)
theorem ScP.kept (h : ScP B Kb Rb Fb Sb Pb p q w) (hk : Kq Pb w w') (hp : PlAt Pb q2 w') : ScP B Kb Rb Fb Sb Pb p q2 w' :=
 ⟨h.sc.kept hk (fun e => h.h1 e.symm) (fun e => h.h2 e.symm) (fun e => h.h3 e.symm) (fun e => h.h4 e.symm) (fun k hh => by rw [hh]; exact h.hB), h.num.keep (h.blw hk), hp, h.hB, h.h1, h.h2, h.h3, h.h4⟩
theorem ScP.below (h : ScP B Kb Rb Fb Sb Pb p q w) (hb : Below w.heap.size w w') : ScP B Kb Rb Fb Sb Pb p q w' := h.kept (Kept.of_below hb) ((hb.block Pb h.pl.lt).trans h.pl)
theorem ScP.step (h : ScP B Kb Rb Fb Sb Pb p q w) : ScP B Kb Rb Fb Sb Pb p (q + 1) (w.setCell ⟨Pb, 0, none⟩ (.int .i64 (q + 1))) :=
 h.kept (Kept.setCell (S := fun k => k = Pb) (Kept.refl _ _) (p := ⟨Pb, 0, none⟩) (Or.inl rfl) _) (h.pl.set (q + 1))
theorem ScP.lcs (h : ScP B Kb Rb Fb Sb Pb p q w) (hl : LcAt w a l) (hk : Kq Pb w w') : LcAt w' a l := LcAt.kept hk (fun k cs fz hc hh => by
 subst hh
 have h2 := h.pl
 unfold PlAt at h2
 rw [h2] at hc
 simp at hc) hl
theorem ScP.sce (h : ScP B Kb Rb Fb Sb Pb p q w) (hl : LcAt w a l) : ScE B Kb Rb Fb Sb p a l w := ⟨h.sc, h.num, hl⟩
end
def QEnds (Pb : Nat) (r : Sc) (e : Ending) (w' : World) : Prop := match r with
 | .on q => e = .returned (.tuple #[]) ∧ PlAt Pb q w'
 | .bad q er => e = faultS er ∧ PlAt Pb q w'
def scRest (p : Pr) (l : Lc) (res : Ty) (body els : List St) (a : Int) : Sc := (scSts p l res body a).bind (scSts p l res els)
section
variable {p : Pr} {l : Lc} {res : Ty} {k : Int} {nm : List UInt8} {t : Ty} {x y : Ex} {bd : Hd} {body : List St} {ed : Hd} {els r : List St} {a e : Int}
theorem scSts_cons {s : St} : scSts p l res (s :: r) a = (scSt p l res s (a + 1)).bind (scSts p (lcNext l s) res r) := by
 rw [scSts]
 cases scSt p l res s (a + 1) <;> rfl
theorem scSt_bad (h : stOwn p l res (.mk k nm t x y bd body ed els) = e) (he : e ≠ 0) : scSt p l res (.mk k nm t x y bd body ed els) a = .bad a e := by
 rw [scSt, h, if_pos he]
theorem scSt_go (h : stOwn p l res (.mk k nm t x y bd body ed els) = 0) : scSt p l res (.mk k nm t x y bd body ed els) a = scRest p (lcNext l (.mk k nm t x y bd body ed els)) res body els a := by
 rw [scSt, h, if_neg (by decide)]
 unfold scRest
 cases scSts p (lcNext l (.mk k nm t x y bd body ed els)) res body a <;> rfl
end
theorem splace_any (Pb : Nat) (p : Int) (w : World) (h : PlAt Pb p w) (h1 : -1 ≤ p) (h2 : p ≤ 1000000) :
  Calls Tryz.prog 80 #[.pointer (some ⟨Pb, 0, none⟩)] w fun e w' => e = .returned (.tuple #[]) ∧ w' = w.setCell ⟨Pb, 0, none⟩ (.int .i64 (p + 1)) := by
 have c0 := cell_at h 0
 have f0 := frz_at h 0
 simp only [sl7, sl8] at c0
 clear h
 go_enter Tryz.func80, Tryz.ntmps80
 go_wp2
 go_end0
 exact ⟨rfl, rfl⟩
abbrev SxS (X6 : Nat) (o : Nat) (x : Ex) (Y o2 : Nat) (t : Ty) (W : World) : Prop :=
 W.cell? ⟨X6, o, none⟩ = some (.int .u8 x.k) ∧ W.cell? ⟨X6, o + 1, none⟩ = some (.int .i64 x.n) ∧ W.cell? ⟨X6, o + 2, none⟩ = some (.string ⟨x.nm.toArray⟩) ∧ W.cell? ⟨X6, o + 3, none⟩ = some (.int .u8 x.t.k) ∧ W.cell? ⟨X6, o + 4, none⟩ = some (.string ⟨x.t.nm.toArray⟩) ∧ W.cell? ⟨X6, o + 5, none⟩ = some (.int .i64 x.t.n) ∧ W.cell? ⟨X6, o + 6, none⟩ = some (.slice x.d.a x.args.length x.d.c) ∧
 W.cell? ⟨Y, o2, none⟩ = some (.int .u8 t.k) ∧ W.cell? ⟨Y, o2 + 1, none⟩ = some (.string ⟨t.nm.toArray⟩) ∧ W.cell? ⟨Y, o2 + 2, none⟩ = some (.int .i64 t.n)
theorem SxS.below {X6 o Y o2 : Nat} {x : Ex} {t : Ty} {W W' : World} (h : SxS X6 o x Y o2 t W) (hb : Below W.heap.size W W') : SxS X6 o x Y o2 t W' := by
 obtain ⟨h0, h1, h2, h3, h4, h5, h6, h7, h8, h9⟩ := h
 exact ⟨(hb.cell (World.block_lt_of_cell? _ _ h0)).trans h0, (hb.cell (World.block_lt_of_cell? _ _ h1)).trans h1, (hb.cell (World.block_lt_of_cell? _ _ h2)).trans h2, (hb.cell (World.block_lt_of_cell? _ _ h3)).trans h3,
  (hb.cell (World.block_lt_of_cell? _ _ h4)).trans h4, (hb.cell (World.block_lt_of_cell? _ _ h5)).trans h5, (hb.cell (World.block_lt_of_cell? _ _ h6)).trans h6, (hb.cell (World.block_lt_of_cell? _ _ h7)).trans h7, (hb.cell (World.block_lt_of_cell? _ _ h8)).trans h8, (hb.cell (World.block_lt_of_cell? _ _ h9)).trans h9⟩
abbrev NxS (X6 : Nat) (x : Ex) (W : World) : Prop :=
 W.cell? ⟨X6, 5, none⟩ = some (.int .u8 x.k) ∧ W.cell? ⟨X6, 6, none⟩ = some (.int .i64 x.n) ∧ W.cell? ⟨X6, 7, none⟩ = some (.string ⟨x.nm.toArray⟩) ∧ W.cell? ⟨X6, 8, none⟩ = some (.int .u8 x.t.k) ∧ W.cell? ⟨X6, 9, none⟩ = some (.string ⟨x.t.nm.toArray⟩) ∧ W.cell? ⟨X6, 10, none⟩ = some (.int .i64 x.t.n) ∧ W.cell? ⟨X6, 11, none⟩ = some (.slice x.d.a x.args.length x.d.c) ∧
 W.cell? ⟨0, 0, none⟩ = some (.int .u8 1) ∧ W.cell? ⟨0, 1, none⟩ = some (.string ⟨([] : List UInt8).toArray⟩) ∧ W.cell? ⟨0, 2, none⟩ = some (.int .i64 0) ∧ W.cell? ⟨0, 3, none⟩ = some (.bool false)
theorem NxS.below {X6 : Nat} {x : Ex} {W W' : World} (h : NxS X6 x W) (hb : Below W.heap.size W W') : NxS X6 x W' := by
 obtain ⟨h0, h1, h2, h3, h4, h5, h6, h7, h8, h9, h10⟩ := h
 exact ⟨(hb.cell (World.block_lt_of_cell? _ _ h0)).trans h0, (hb.cell (World.block_lt_of_cell? _ _ h1)).trans h1, (hb.cell (World.block_lt_of_cell? _ _ h2)).trans h2, (hb.cell (World.block_lt_of_cell? _ _ h3)).trans h3,
  (hb.cell (World.block_lt_of_cell? _ _ h4)).trans h4, (hb.cell (World.block_lt_of_cell? _ _ h5)).trans h5, (hb.cell (World.block_lt_of_cell? _ _ h6)).trans h6, (hb.cell (World.block_lt_of_cell? _ _ h7)).trans h7, (hb.cell (World.block_lt_of_cell? _ _ h8)).trans h8, (hb.cell (World.block_lt_of_cell? _ _ h9)).trans h9, (hb.cell (World.block_lt_of_cell? _ _ h10)).trans h10⟩
end Go.Proofs.YtkklogikakcanaaGreatDoor
