import Derived.Test.YtkklogikakcanaaGreatDoorLexPlain
import Derived.Test.YtkklogikakcanaaGreatDoorShelf
import Derived.WalkKit
import Derived.WalkSmall
import Derived.Lib.Hide
import Derived.Deep.DeepWitnessRowRef
set_option linter.unusedVariables false
set_option linter.unusedSimpArgs false
namespace Go.Proofs.YtkklogikakcanaaGreatDoor
open Go.RowKit
theorem qyy85_1 {P:Prop} (h:P:=by
 clear HN
 go_enter Tryz.func97,Tryz.ntmps97
 go_wp2_with fail
 go_ret
 exact⟨ret_bool F.out,rfl⟩):P:=h
structure LGlobs (w:World):Prop where
 ml:∃m,w.cell? ⟨1,0,none⟩=some (.int .i64 m)
 lt:1<w.heap.size
theorem LGlobs.below {w w':World} (h:LGlobs w) (hb:Below w.heap.size w w'):LGlobs w':=by
 obtain⟨m,hm⟩:=h.ml
 exact⟨⟨m,(hb.cell (p:=⟨1,0,none⟩) h.lt).trans hm⟩,Nat.lt_of_lt_of_le h.lt hb.size⟩
theorem lglobs_of {w:World} (hS:w.ShapedOpen Tryz.prog):LGlobs w:=by
 obtain⟨m,hm⟩:∃m,w.cell? ⟨1,0,none⟩=some (.int .i64 m):=
  Go.Proofs.cell_of_shapedOpen_int (zero:=#[.int .i64 0]) (t:=3) hS (of_decide_eq_true (by kernel_rfl)) (by kernel_rfl) rfl (by kernel_rfl) (by kernel_rfl) Tryz.underlying3
 exact⟨⟨m,hm⟩,World.block_lt_of_cell? w _ hm⟩
set_option maxHeartbeats 400000 in
theorem lword_any (l:List UInt8) (hl:l.length≤140737488355328) (w:World) (G:LGlobs w):
  Calls Tryz.prog 137 #[.string ⟨l.toArray⟩] w fun e w'=>e=.returned (.bool (wordB l))∧w=w':=by
 obtain⟨m,hml⟩:=G.ml
 clear G
 have C1:=Lib.hid (fun (s:ByteArray) W=>Tryz.strings_Contains_one s 32 W)
 have C2:=Lib.hid (fun (s sub:ByteArray) W hs hw=>Tryz.strings_Contains s sub m W hs hw)
 have HM:=Lib.hid hml
 clear hml
 by_cases h0:l=[]
 ·subst h0
  clear C1 C2
  go_enter Tryz.func137,Tryz.ntmps137
  go_wp2
  go_ret
  exact⟨rfl,rfl⟩
 ·have h0':l.isEmpty=false:=by simpa using h0
  by_cases h1:32∈l
  ·have E:=Lib.hid (show Ending.returned (.bool false)=.returned (.bool (wordB l)) by
    congr 2
    cases hb:wordB l
    ·rfl
    ·exact absurd h1 (word_nospace hb).2)
   have K:=Lib.hid (show decide (0≤Lib.indexByte l 32)=true by rw[indexByte_mem];simpa using h1)
   clear h1 h0 C2
   go_enter Tryz.func137,Tryz.ntmps137
   go_wp2_with fail
   refine (C1.out _ _).mono ?_
   rintro e w' ⟨rfl,rfl⟩
   rw[show decide (0≤Lib.indexByte (⟨l.toArray⟩:ByteArray).data.toList 32)=true from by simpa using K.out]
   go_wp2_with fail
   go_ret
   exact⟨E.out,rfl⟩
  ·have K:=Lib.hid (show decide (0≤Lib.indexByte l 32)=false by rw[indexByte_mem];simpa using h1)
   have K2:=Lib.hid (words_contains l h0 h1)
   clear h1 h0
   go_enter Tryz.func137,Tryz.ntmps137
   go_wp2_with fail
   refine (C1.out _ _).mono ?_
   rintro e w' ⟨rfl,rfl⟩
   rw[show decide (0≤Lib.indexByte (⟨l.toArray⟩:ByteArray).data.toList 32)=false from by simpa using K.out]
   go_wp2_with fail
   refine (C2.out _ _ _ (by decide) HM.out).mono ?_
   rintro e w' ⟨rfl,rfl⟩
   go_wp2_with fail
   go_ret
   refine⟨?_,rfl⟩
   rw[←K2.out]
   congr 3
set_option maxHeartbeats 400000 in
theorem part_any (c:UInt8) (w:World):Calls Tryz.prog 138 #[.int .u8 c.toNat] w fun e w'=>e=.returned (.bool (partB c))∧w=w':=by
 have E:∀b,partB c=b→Ending.returned (.bool b)=.returned (.bool (partB c)):=fun b h=>by rw[h]
 have hE:=Lib.hid E
 clear E
 by_cases h1:97≤c.toNat
 ·by_cases h2:c.toNat≤122
  ·go_enter Tryz.func138,Tryz.ntmps138
   go_wp2
   go_ret
   exact⟨hE.out true (by simp[partB,h1,h2]),rfl⟩
  ·have h3:decide ((c.toNat:Int)≤57)=false:=by simp;omega
   have h3':decide ((c.toNat:Int)≤122)=false:=by simp;omega
   have h4:((c.toNat:Int)==95)=false:=by simp;omega
   go_enter Tryz.func138,Tryz.ntmps138
   go_wp2
   go_ret
   exact⟨hE.out false (by simp[partB];omega),rfl⟩
 ·by_cases h2:48≤c.toNat∧c.toNat≤57
  ·obtain⟨h2,h3⟩:=h2
   go_enter Tryz.func138,Tryz.ntmps138
   go_wp2
   go_ret
   exact⟨hE.out true (by simp[partB,h2,h3]),rfl⟩
  ·by_cases h5:c.toNat=95
   ·have h6:((c.toNat:Int)==95)=true:=by simp;omega
    have h7:¬c.toNat≤57:=by omega
    have h8:48≤c.toNat:=by omega
    clear h2
    have h9:=Lib.hid h5
    clear h5
    go_enter Tryz.func138,Tryz.ntmps138
    go_wp2
    go_ret
    exact⟨hE.out true (by simp[partB,h9.out]),rfl⟩
   ·have h6:((c.toNat:Int)==95)=false:=by simp;omega
    have hB:partB c=false:=by simp[partB];omega
    have HB:=Lib.hid hB
    clear hB h5
    by_cases h7:48≤c.toNat
    ·have h8:decide ((c.toNat:Int)≤57)=false:=by simp;omega
     clear h2
     go_enter Tryz.func138,Tryz.ntmps138
     go_wp2
     go_ret
     exact⟨hE.out false HB.out,rfl⟩
    ·clear h2
     go_enter Tryz.func138,Tryz.ntmps138
     go_wp2
     go_ret
     exact⟨hE.out false HB.out,rfl⟩
theorem ret_bool {a b:Bool} (h:a=b):Ending.returned (.bool a)=.returned (.bool b):=by rw[h]
set_option maxHeartbeats 1000000 in
set_option maxRecDepth 100000 in
theorem lname_any (l:List UInt8) (hl:l.length≤140737488355328) (w:World) (G:LGlobs w):
  Calls Tryz.prog 97 #[.string ⟨l.toArray⟩] w fun e w'=>e=.returned (.bool (nameB l))∧w=w':=by
 cases hc0:l with
 |nil=>
  go_enter Tryz.func97,Tryz.ntmps97
  go_wp2
  go_ret
  exact⟨rfl,rfl⟩
 |cons c r=>
  rw[←hc0]
  have hne:l.isEmpty=false:=by rw[hc0];rfl
  have hpos:0<l.length:=by rw[hc0];simp
  have hget:∀h,((⟨l.toArray⟩:ByteArray)[0]'h)=c:=fun h=>by subst hc0;rfl
  have hN:nameB l=(decide (l.length≤16)&&decide (97≤c.toNat)&&decide (c.toNat≤122)&& !wordB l&&l.all partB):=by rw[hc0];rfl
  have HN:=Lib.hid hN
  have C:=Lib.hid (fun W GW=>lword_any l hl W GW)
  have HG:=Lib.hid G
  clear hc0 hN G
  by_cases h16:l.length≤16
  ·by_cases ha:97≤c.toNat
   ·by_cases hz:c.toNat≤122
    ·cases hw:wordB l
     ·have F:=Lib.hid (show nameB l=l.all partB by rw[HN.out,hw];simp[h16,ha,hz])
      have HW:=Lib.hid hw
      clear hw HN
      go_enter Tryz.func97,Tryz.ntmps97
      go_wp2_with fail
      refine (C.out _ HG.out).mono ?_
      rintro e w' ⟨rfl,rfl⟩
      rw[HW.out]
      go_wp2_with fail
      clear hget
      go_loop [3,27] (fun _ i=>∃k:Nat,k≤l.length∧i=.int .i64 k∧Hid ((l.drop k).all partB=l.all partB)) (fun _ i=>l.length - (intOf i).toNat)
      case atStart=>exact⟨0,by omega,rfl,rfl⟩
      case round=>
       obtain⟨k,hk,rfl,hH⟩:=hrel
       by_cases hlt:k<l.length
       ·have hget:∀h,((⟨l.toArray⟩:ByteArray)[k]'h)=l[k]:=fun h=>rfl
        have hstep:=Lib.hid (show (partB l[k]&&(l.drop (k+1)).all partB)=l.all partB by rw[←hH.out,List.drop_eq_getElem_cons hlt,List.all_cons])
        clear hH
        cases hp:partB l[k]
        ·have HP:=Lib.hid hp
         clear hp
         go_wp2_with fail
         refine (part_any _ _).mono ?_
         rintro e w' ⟨rfl,rfl⟩
         rw[HP.out]
         go_wp2_with fail
         go_ret
         exact⟨ret_bool (by rw[F.out,←hstep.out,HP.out];rfl),rfl⟩
        ·have HP:=Lib.hid hp
         clear hp
         go_wp2_with fail
         refine (part_any _ _).mono ?_
         rintro e w' ⟨rfl,rfl⟩
         rw[HP.out]
         go_wp2_with fail
         go_round
         case rel=>exact⟨k+1,by omega,by go_num,by have:=hstep.out;rw[HP.out,Bool.true_and]at this;exact this⟩
         case measure=>simp[intOf];omega
       ·have hk':k=l.length:=by omega
        have F2:=Lib.hid (show true=nameB l by rw[F.out,←hH.out,hk',List.drop_length];rfl)
        clear hH hk'
        go_wp2_with fail
        go_ret
        exact⟨ret_bool F2.out,rfl⟩
     ·have F:=Lib.hid (show false=nameB l by rw[HN.out,hw];simp)
      have HW:=Lib.hid hw
      clear hw HN
      go_enter Tryz.func97,Tryz.ntmps97
      go_wp2_with fail
      refine (C.out _ HG.out).mono ?_
      rintro e w' ⟨rfl,rfl⟩
      rw[HW.out]
      go_wp2_with fail
      go_ret
      exact⟨ret_bool F.out,rfl⟩
    ·have F:=Lib.hid (show false=nameB l by rw[HN.out];simp[hz])
     exact qyy85_1
   ·have F:=Lib.hid (show false=nameB l by rw[HN.out];simp[ha])
    exact qyy85_1
  ·have F:=Lib.hid (show false=nameB l by rw[HN.out];simp[h16])
   exact qyy85_1
end Go.Proofs.YtkklogikakcanaaGreatDoor
