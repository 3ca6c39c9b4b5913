import Derived.Test.YtkklogikakcanaaGreatDoorLexWordsT
set_option linter.unusedVariables false
set_option linter.unusedSimpArgs false
namespace Go.Proofs.YtkklogikakcanaaGreatDoor
open Go.RowKit
theorem q1as3_1 {P:Prop} (h:P:=by
 clear HN
 go_enter Tryz.func98,Tryz.ntmps98
 go_wp2_with fail
 go_ret
 exact⟨ret_bool F.out,rfl⟩):P:=h
set_option maxHeartbeats 1000000 in
theorem rword_any (l:List UInt8) (hl:l.length≤140737488355328) (w:World):
  Calls Tryz.prog 139 #[.string ⟨l.toArray⟩] w fun e w'=>e=.returned (.bool (wordB l))∧w=w':=by
 by_cases h:l∈wordList
 ·have E:∀l∈wordList,Ending.returned (.bool true)=.returned (.bool (wordB l)):=fun l hl=>by rw[show wordB l=true by simpa [wordB] using hl]
  have HE:=Lib.hid (E l h)
  clear E
  simp only[wordList,List.mem_cons,List.not_mem_nil,or_false]at h
  rcases h with rfl|rfl|rfl|rfl|rfl|rfl|rfl|rfl|rfl|rfl|rfl|rfl|rfl|rfl
  all_goals
   go_enter Tryz.func139,Tryz.ntmps139
   go_wp2
   go_ret
   exact⟨HE.out,rfl⟩
 ·have F:=Lib.hid (show false=wordB l by simpa [wordB] using h)
  have w0:(l==[114,101,99,111,114,100])=false:=by simpa using fun e=>h (by rw[e];decide)
  have w1:(l==[115,104,97,114,101,100])=false:=by simpa using fun e=>h (by rw[e];decide)
  have w2:(l==[102,117,110,99])=false:=by simpa using fun e=>h (by rw[e];decide)
  have w3:(l==[116,104,114,101,97,100])=false:=by simpa using fun e=>h (by rw[e];decide)
  have w4:(l==[118,97,114])=false:=by simpa using fun e=>h (by rw[e];decide)
  have w5:(l==[105,102])=false:=by simpa using fun e=>h (by rw[e];decide)
  have w6:(l==[101,108,115,101])=false:=by simpa using fun e=>h (by rw[e];decide)
  have w7:(l==[119,104,105,108,101])=false:=by simpa using fun e=>h (by rw[e];decide)
  have w8:(l==[97,116,111,109,105,99])=false:=by simpa using fun e=>h (by rw[e];decide)
  have w9:(l==[112,114,105,110,116])=false:=by simpa using fun e=>h (by rw[e];decide)
  have w10:(l==[114,101,116,117,114,110])=false:=by simpa using fun e=>h (by rw[e];decide)
  have w11:(l==[110,101,119])=false:=by simpa using fun e=>h (by rw[e];decide)
  have w12:(l==[110,105,108])=false:=by simpa using fun e=>h (by rw[e];decide)
  have w13:(l==[105,110,116])=false:=by simpa using fun e=>h (by rw[e];decide)
  clear h
  go_enter Tryz.func139,Tryz.ntmps139
  go_wp2
  go_ret
  exact⟨ret_bool F.out,rfl⟩
set_option maxHeartbeats 1000000 in
set_option maxRecDepth 100000 in
theorem rname_any (l:List UInt8) (hl:l.length≤140737488355328) (w:World):
  Calls Tryz.prog 98 #[.string ⟨l.toArray⟩] w fun e w'=>e=.returned (.bool (nameB l))∧w=w':=by
 cases hc0:l with
 |nil=>
  go_enter Tryz.func98,Tryz.ntmps98
  go_wp2
  go_ret
  exact⟨rfl,rfl⟩
 |cons c r=>
  rw[←hc0]
  have hpos:0<l.length:=by rw[hc0];simp
  have hget:∀h,((⟨l.toArray⟩:ByteArray)[0]'h)=c:=fun h=>by subst hc0;rfl
  have hN:nameB l=(decide (l.length≤16)&&decide (97≤c.toNat)&&decide (c.toNat≤122)&& !wordB l&&l.all partB):=by rw[hc0];rfl
  have HN:=Lib.hid hN
  have C:=Lib.hid (fun W=>rword_any l hl W)
  clear hc0 hN
  by_cases h16:l.length≤16
  ·by_cases ha:97≤c.toNat
   ·by_cases hz:c.toNat≤122
    ·cases hw:wordB l
     ·have F:=Lib.hid (show nameB l=l.all partB by rw[HN.out,hw];simp[h16,ha,hz])
      have HW:=Lib.hid hw
      clear hw HN
      go_enter Tryz.func98,Tryz.ntmps98
      go_wp2_with fail
      refine (C.out _).mono ?_
      rintro e w' ⟨rfl,rfl⟩
      rw[HW.out]
      go_wp2_with fail
      clear hget ha hz
      go_loop [3,4] (fun i _=>∃k:Nat,k≤l.length∧i=.int .i64 k∧Hid ((l.drop k).all partB=l.all partB)) (fun i _=>l.length - (intOf i).toNat)
      case atStart=>exact⟨0,by omega,rfl,rfl⟩
      case round=>
       obtain⟨k,hk,rfl,hH⟩:=hrel
       by_cases hlt:k<l.length
       ·have hget:∀h,((⟨l.toArray⟩:ByteArray)[k]'h)=l[k]:=fun h=>rfl
        have hstep:=Lib.hid (show (partB l[k]&&(l.drop (k+1)).all partB)=l.all partB by rw[←hH.out,List.drop_eq_getElem_cons hlt,List.all_cons])
        clear hH
        by_cases h95:l[k].toNat=95
        ·have p:=Lib.hid (show partB l[k]=true by simp[partB,h95])
         have q:((l[k].toNat:Int) != 95)=false:=by simp;omega
         clear h95
         go_wp2_with fail
         go_round
         case rel=>exact⟨k+1,by omega,by go_num,by have:=hstep.out;rw[p.out,Bool.true_and]at this;exact this⟩
         case measure=>simp[intOf];omega
        ·have q:((l[k].toNat:Int) != 95)=true:=by simp;omega
         by_cases p:(97≤l[k].toNat∧l[k].toNat≤122)∨(48≤l[k].toNat∧l[k].toNat≤57)
         ·have P:=Lib.hid (show partB l[k]=true by simp[partB];omega)
          clear h95
          rcases p with ⟨p1,p2⟩|⟨p1,p2⟩
          ·go_wp2_with fail
           go_round
           case rel=>exact⟨k+1,by omega,by go_num,by have:=hstep.out;rw[P.out,Bool.true_and]at this;exact this⟩
           case measure=>simp[intOf];omega
          ·have p3:l[k].toNat<97:=by omega
           go_wp2_with fail
           go_round
           case rel=>exact⟨k+1,by omega,by go_num,by have:=hstep.out;rw[P.out,Bool.true_and]at this;exact this⟩
           case measure=>simp[intOf];omega
         ·have P:=Lib.hid (show partB l[k]=false by simp[partB];omega)
          have F2:=Lib.hid (show false=nameB l by rw[F.out,←hstep.out,P.out];rfl)
          by_cases r1:l[k].toNat<48
          ·clear p h95
           go_wp2_with fail
           go_ret
           exact⟨ret_bool F2.out,rfl⟩
          ·by_cases r2:122<l[k].toNat
           ·clear p h95
            go_wp2_with fail
            go_ret
            exact⟨ret_bool F2.out,rfl⟩
           ·have r3:57<l[k].toNat:=by omega
            have r4:l[k].toNat<97:=by omega
            clear p h95
            go_wp2_with fail
            go_ret
            exact⟨ret_bool F2.out,rfl⟩
       ·have hk':k=l.length:=by omega
        have F2:=Lib.hid (show true=nameB l by rw[F.out,←hH.out,hk',List.drop_length];rfl)
        clear hH hk'
        go_wp2_with fail
        go_ret
        exact⟨ret_bool F2.out,rfl⟩
     ·have F:=Lib.hid (show false=nameB l by rw[HN.out,hw];simp)
      have HW:=Lib.hid hw
      clear hw HN
      go_enter Tryz.func98,Tryz.ntmps98
      go_wp2_with fail
      refine (C.out _).mono ?_
      rintro e w' ⟨rfl,rfl⟩
      rw[HW.out]
      go_wp2_with fail
      go_ret
      exact⟨ret_bool F.out,rfl⟩
    ·have F:=Lib.hid (show false=nameB l by rw[HN.out];simp[hz])
     exact q1as3_1
   ·have F:=Lib.hid (show false=nameB l by rw[HN.out];simp[ha])
    exact q1as3_1
  ·have F:=Lib.hid (show false=nameB l by rw[HN.out];simp[h16])
   exact q1as3_1
end Go.Proofs.YtkklogikakcanaaGreatDoor
