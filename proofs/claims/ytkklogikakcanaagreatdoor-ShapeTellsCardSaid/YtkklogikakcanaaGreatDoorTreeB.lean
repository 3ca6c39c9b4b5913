import Derived.Test.YtkklogikakcanaaGreatDoorTreeA
import Derived.Test.YtkklogikakcanaaGreatDoorRegion
import Derived.Maps.Own
import Derived.Maps.OwnOps
import Derived.Maps.OwnSet
set_option linter.unusedVariables false
set_option linter.unusedSimpArgs false
open List renaming getElem?_toArray → sl7, getElem?_cons_zero → sl8
namespace Go.Proofs.YtkklogikakcanaaGreatDoor
open Go.RowKit
theorem qggy9_1 {P:Prop} (h:P:=by
 go_enter Tryz.func150,Tryz.ntmps150
 go_wp2_with (go_at_call 111;refine (want_no _ _ _).mono ?_;rintro e w2 ⟨rfl,rfl⟩)
 exact⟨rfl,rfl,rfl⟩):P:=h
abbrev faultE (e:Int):Ending:=.panicked [{ v:=.iface 159 (.int .i64 e),recovered:=false }]
theorem want_yes (a:Option Addr) (e:Int) (w:World):Calls Tryz.prog 111 #[.pointer a,.bool true,.int .i64 e] w fun en w'=>en=.returned (.tuple #[])∧w=w':=by
 go_enter Tryz.func111,Tryz.ntmps111
 go_wp2
 go_end0
 exact⟨rfl,rfl⟩
theorem want_no (a:Option Addr) (e:Int) (w:World):Calls Tryz.prog 111 #[.pointer a,.bool false,.int .i64 e] w fun en w'=>en=faultE e∧w=w':=by
 go_enter Tryz.func111,Tryz.ntmps111
 go_wp2
 exact⟨rfl,rfl,rfl⟩
theorem wtyp_any (a:Option Addr) (t:Ty) (hl:lenOk t.nm.length) (w:World) (G:LGlobs w):
  Calls Tryz.prog 113 #[.pointer a,.agg #[.int .u8 t.k,.string ⟨t.nm.toArray⟩,.int .i64 t.n]] w fun en w'=>en=(if tyForm t=0 then .returned (.tuple #[]) else faultE (tyForm t))∧Below w.heap.size w w':=by
 obtain⟨k,nm,n⟩:=t
 have CT:=Lib.hid (fun W GW=>tform_lit k nm n hl W GW)
 have HG:=Lib.hid (fun o=>(G.below ((Below.refl w.heap.size w).alloc (Nat.le_refl _) o)))
 have HB0:=Lib.hid (fun o=>(Below.refl w.heap.size w).alloc (Nat.le_refl _) o)
 obtain⟨v,hv⟩:∃v,tyForm ⟨k,nm,n⟩=v:=⟨_,rfl⟩
 rw[hv]at CT ⊢
 clear hl G hv
 by_cases h0:v=0
 ·subst h0
  rw[if_pos rfl]
  go_enter Tryz.func113,Tryz.ntmps113
  go_wp2_with (first|(go_at_call 54;refine (CT.out _ (HG.out _)).mono ?_;rintro e w1 ⟨rfl,hb1⟩;have HB1:=Lib.hid ((HB0.out _).trans (hb1.mono (HB0.out _).size));clear hb1)|(go_at_call 111;refine (want_yes _ _ _).mono ?_;rintro e w2 ⟨rfl,rfl⟩))
  go_end0
  exact⟨rfl,HB1.out⟩
 ·have t1:(v==0)=false:=by simpa using h0
  rw[if_neg h0]
  clear h0
  go_enter Tryz.func113,Tryz.ntmps113
  go_wp2_with (first|(go_at_call 54;refine (CT.out _ (HG.out _)).mono ?_;rintro e w1 ⟨rfl,hb1⟩;have HB1:=Lib.hid ((HB0.out _).trans (hb1.mono (HB0.out _).size));clear hb1)|(go_at_call 111;refine (want_no _ _ _).mono ?_;rintro e w2 ⟨rfl,rfl⟩))
  exact⟨rfl,rfl,HB1.out⟩
def WkAt (Wb Mb it:Nat) (W:World):Prop:=W.heap[Wb]? =some (.cells #[.int .i64 (it:Int),.map (some Mb)] 164 (0,0))
theorem cell_at {w:World} {X:Nat} {cs:Array Value} {T:TypeId} {fz:Nat×Nat} (h:w.heap[X]? =some (.cells cs T fz)) (j:Nat):w.cell? ⟨X,j,none⟩=cs[j]? :=by
 simp[World.cell?,h]
theorem frz_at {w:World} {X:Nat} {cs:Array Value} {T:TypeId} (h:w.heap[X]? =some (.cells cs T (0,0))) (j:Nat):w.frozen? ⟨X,j,none⟩=false:=by
 simp[World.frozen?,h]
theorem row_set {w:World} {X:Nat} {cs:Array Value} {T:TypeId} {fz:Nat×Nat} (h:w.heap[X]? =some (.cells cs T fz)) (j:Nat) (u:Value):(w.setCell ⟨X,j,none⟩ u).heap[X]? =some (.cells (cs.setIfInBounds j u) T fz):=by
 simp[World.setCell,Array.getElem?_modify,h]
theorem WkAt.next {Wb Mb it:Nat} {W:World} (h:WkAt Wb Mb it W):WkAt Wb Mb (it+1) (W.setCell ⟨Wb,0,none⟩ (.int .i64 ((it:Int)+1))):=by
 have:=row_set h 0 (.int .i64 ((it:Int)+1))
 simpa [WkAt] using this
theorem WkAt.lt {Wb Mb it:Nat} {W:World} (h:WkAt Wb Mb it W):Wb<W.heap.size:=(Array.getElem?_eq_some_iff.1 h).1
theorem witem_any (Wb Mb it deep:Nat) (hit:it≤1000000) (hd:deep≤1000000) (w:World) (h:WkAt Wb Mb it w):
  Calls Tryz.prog 150 #[.pointer (some ⟨Wb,0,none⟩),.int .i64 (deep:Int)] w fun en w'=>
   en=(match itemC deep it with|.ok _=>.returned (.tuple #[])|.error e=>faultE e)∧w'=w.setCell ⟨Wb,0,none⟩ (.int .i64 ((it:Int)+1)):=by
 have c0:=cell_at h 0
 have f0:=frz_at h 0
 simp only[sl7,sl8]at c0
 by_cases h1:deep≤16
 ·have d1:decide ((deep:Int)≤16)=true:=by simp;omega
  by_cases h2:it+1≤1024
  ·have d2:decide ((it:Int)+1≤1024)=true:=by simp;omega
   rw[show itemC deep it=.ok (it+1) by unfold itemC;rw[if_pos ⟨h1,h2⟩]]
   dsimp only
   clear h h1 h2
   go_enter Tryz.func150,Tryz.ntmps150
   go_wp2_with (go_at_call 111;refine (want_yes _ _ _).mono ?_;rintro e w2 ⟨rfl,rfl⟩)
   go_end0
   exact⟨rfl,rfl⟩
  ·have d2:decide ((it:Int)+1≤1024)=false:=by simp;omega
   rw[show itemC deep it=.error 3 by unfold itemC;rw[if_neg (fun hh=>h2 hh.2)]]
   dsimp only
   clear h h1 h2
   exact qggy9_1
 ·have d1:decide ((deep:Int)≤16)=false:=by simp;omega
  rw[show itemC deep it=.error 3 by unfold itemC;rw[if_neg (fun hh=>h1 hh.1)]]
  dsimp only
  clear h h1
  exact qggy9_1
end Go.Proofs.YtkklogikakcanaaGreatDoor
