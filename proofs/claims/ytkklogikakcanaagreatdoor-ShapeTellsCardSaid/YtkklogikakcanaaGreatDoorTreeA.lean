import Derived.Test.YtkklogikakcanaaGreatDoorTreeBase
import Derived.Test.YtkklogikakcanaaGreatDoorLexWordsT
import Derived.Test.YtkklogikakcanaaGreatDoorKept
import Derived.WalkLawsBesides
import Derived.WalkSpells
import Derived.Lib.Hide
set_option linter.unusedVariables false
set_option linter.unusedSimpArgs false
namespace Go.Proofs.YtkklogikakcanaaGreatDoor
open Go.RowKit
theorem qml0k_1 {P:Prop} (h:P:=by
 rw[hb]at CN
 have HN:=Lib.hid hb
 clear hb
 go_enter Tryz.func54,Tryz.ntmps54
 go_wp2_with (go_at_call 97;refine (CN.out _ (HG.out _)).mono ?_;rintro e w1 ⟨rfl,rfl⟩)
 all_goals
  go_ret
  refine⟨HE.out _ ?_,HBl.out _⟩
  have hn:=HN.out
  unfold tyForm
  simp_all
  try omega):P:=h
set_option maxHeartbeats 1000000 in
theorem none_lit (k n:Int) (nm:List UInt8) (tk:Int) (tnm:List UInt8) (tn:Int) (A:Option Addr) (l c:Nat) (w:World):
  Calls Tryz.prog 152 #[exAgg k n nm tk tnm tn A l c] w
   fun e w'=>e=.returned (.bool (decide (k=0)&&(decide (n=0)&&(nm.isEmpty&&((decide (tk=0)&&(tnm.isEmpty&&decide (tn=0)))&&decide (l=0))))))∧Below w.heap.size w w':=by
 go_enter Tryz.func152,Tryz.ntmps152
 go_wp2
 all_goals
  go_ret
  refine⟨?_,(Below.refl _ _).alloc (Nat.le_refl _) _⟩
  congr 2
  by_cases hl0:l=0<;>simp_all
theorem none_any (x:Ex) (w:World):Calls Tryz.prog 152 #[x.val] w fun e w'=>e=.returned (.bool (noEx x))∧Below w.heap.size w w':=by
 refine (none_lit x.k x.n x.nm x.t.k x.t.nm x.t.n x.d.a x.args.length x.d.c w).mono fun e w' h=>?_
 have e1:decide (x.args.length=0)=x.args.isEmpty:=by cases x.args<;>rfl
 rw[e1]at h
 exact h
set_option maxHeartbeats 2000000 in
theorem tform_lit (k:Int) (nm:List UInt8) (n:Int) (hl:lenOk nm.length) (w:World) (G:LGlobs w):
  Calls Tryz.prog 54 #[.agg #[.int .u8 k,.string ⟨nm.toArray⟩,.int .i64 n]] w
   fun e w'=>e=.returned (.int .i64 (tyForm ⟨k,nm,n⟩))∧Below w.heap.size w w':=by
 have CN:=Lib.hid (fun W GW=>lname_any nm hl W GW)
 have HG:=Lib.hid (fun o=>(G.below ((Below.refl w.heap.size w).alloc (Nat.le_refl _) o)))
 clear hl G
 have HB:∀v,tyForm ⟨k,nm,n⟩=v→Ending.returned (.int .i64 v)=.returned (.int .i64 (tyForm ⟨k,nm,n⟩)):=fun v h=>by rw[h]
 have HE:=Lib.hid HB
 clear HB
 have HBl:=Lib.hid (fun o=>(Below.refl w.heap.size w).alloc (Nat.le_refl _) o)
 cases hb:nameB nm with
 |true=>
  exact qml0k_1
 |false=>
  exact qml0k_1
end Go.Proofs.YtkklogikakcanaaGreatDoor
