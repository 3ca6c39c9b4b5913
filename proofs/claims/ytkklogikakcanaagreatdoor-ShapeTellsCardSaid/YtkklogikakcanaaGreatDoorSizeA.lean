import Derived.Test.YtkklogikakcanaaGreatDoorTreeB
import Derived.Test.YtkklogikakcanaaGreatDoorTreePlain2
import Derived.Test.YtkklogikakcanaaGreatDoorRowKit
set_option linter.unusedVariables false
set_option linter.unusedSimpArgs false
open List renaming getElem_toArray → sl1, getElem_cons_zero → sl2, getElem_cons_succ → sl3, setIfInBounds_toArray → sl4, set_cons_zero → sl5, set_cons_succ → sl6, getElem?_toArray → sl7, getElem?_cons_zero → sl8, getElem?_cons_succ → sl9
namespace Go.Proofs.YtkklogikakcanaaGreatDoor
open Go.RowKit
theorem q9k7m_2 {P:Prop} (h:P:=by
 refine⟨by omega,fun h0=>?_⟩
 obtain⟨h5,h6⟩:=h2 h0
 have h7:=h4 (by omega)
 refine⟨fun x hx=>?_,?_⟩
 ·rcases List.mem_cons.1 hx with rfl|hx
  ·omega
  ·have:=h5 x hx;omega
 ·simp only[List.map_cons,List.sum_cons]
  push_cast at h6 ⊢
  omega):P:=h
theorem q9k7m_1 {P:Prop} (h:P:=by
 go_loopw [3,5] (fun lf ii wr=>∃(j:Nat) (lft:Int),lf=.int .i64 lft∧ii=.int .i64 j∧j≤p.fs.length∧lft≤262144∧Hid (Below w1.heap.size w1 wr)∧Hid (lfTh p.ts (lfFu (p.fs.drop j) lft)=R)) (fun lf ii _=>p.fs.length - (intOf ii).toNat)
 case atStart=>exact⟨0,_,rfl,rfl,Nat.zero_le _,by omega,hw,Lib.hid (by rw[List.drop_zero];exact HC2.out)⟩
 case round=>
  clear hlt2 hlt3 hw q0 q1 q2 q3
  obtain⟨j,lft,rfl,rfl,hj,hlt2,hw,hC⟩:=hrel
  obtain⟨q0,q1,q2,q3⟩:=HQ.out _ hw.out
  have p2:(0:Int)≤(j:Int):=Int.natCast_nonneg _
  by_cases hlt:j<p.fs.length
  ·have p1:(j:Int)<(p.fs.length:Int):=by omega
   have d1:decide ((j:Int)<(p.fs.length:Int))=true:=by simpa using hlt
   have d1n:decide (j<p.fs.length)=true:=by simpa using hlt
   obtain⟨y,hy⟩:∃y,p.fs[j]? =some y:=⟨_,List.getElem?_eq_getElem hlt⟩
   have hdrop:p.fs.drop j=y::p.fs.drop (j+1):=by
    have:=List.drop_eq_getElem_cons hlt
    rw[List.getElem?_eq_getElem hlt]at hy
    injection hy with hy
    rw[this,hy]
   have hC1:=hC.out
   rw[hdrop,lfFu]at hC1
   by_cases hneg:lft<0
   ·rw[if_pos hneg]at hC1
    have HC3:=Lib.hid hC1
    have d2:decide (0≤lft)=false:=by simp;omega
    clear hC hC1 hdrop hy HC2
    go_wp2_with fail
    clear p1 p2 d1 d1n d2 hlt hj
    go_loopw [3,6] (fun lf ii wr=>∃(j:Nat) (lft:Int),lf=.int .i64 lft∧ii=.int .i64 j∧j≤p.ts.length∧lft≤262144∧Hid (Below w1.heap.size w1 wr)∧Hid (lfTh (p.ts.drop j) lft=R)) (fun lf ii _=>p.ts.length - (intOf ii).toNat)
    case atStart=>exact⟨0,_,rfl,rfl,Nat.zero_le _,by omega,hw,Lib.hid (by rw[List.drop_zero];exact HC3.out)⟩
    case round=>
     clear hlt2 hw q0 q1 q2 q3
     obtain⟨j,lft,rfl,rfl,hj,hlt2,hw,hC⟩:=hrel
     obtain⟨q0,q1,q2,q3⟩:=HQ.out _ hw.out
     have p2:(0:Int)≤(j:Int):=Int.natCast_nonneg _
     by_cases hlt:j<p.ts.length
     ·have p1:(j:Int)<(p.ts.length:Int):=by omega
      have d1:decide ((j:Int)<(p.ts.length:Int))=true:=by simpa using hlt
      have d1n:decide (j<p.ts.length)=true:=by simpa using hlt
      obtain⟨y,hy⟩:∃y,p.ts[j]? =some y:=⟨_,List.getElem?_eq_getElem hlt⟩
      have hdrop:p.ts.drop j=y::p.ts.drop (j+1):=by
       have:=List.drop_eq_getElem_cons hlt
       rw[List.getElem?_eq_getElem hlt]at hy
       injection hy with hy
       rw[this,hy]
      have hC1:=hC.out
      rw[hdrop,lfTh]at hC1
      by_cases hneg:lft<0
      ·rw[if_pos hneg]at hC1
       obtain rfl:lft=R:=hC1
       have d2:decide (0≤lft)=false:=by simp;omega
       clear hC hdrop hy HC3
       go_wp2_with (go_at_call 33;refine (C2.out _).mono ?_;rintro e w3 ⟨rfl,rfl⟩)
       go_ret
       exact⟨rfl,HB1.out.trans (hw.out.mono HB1.out.size)⟩
      ·rw[if_neg hneg]at hC1
       have d2:decide (0≤lft)=true:=by simp;omega
       have hmem:=List.mem_of_getElem? hy
       obtain⟨rb,ro,hda,hrb,hrow⟩:=(HI.out _ hw.out).trow (by intro h0;rw[h0]at hlt;simp at hlt)
       have z0:=(hrow j y hy).c0
       rw[Nat.mul_one]at z0
       have HC1:Hid (lfTh (p.ts.drop (j+1)) (lfSs y.l (lft - (y.l.length:Int)))=R):=Lib.hid hC1
       have CB:=Lib.hid (rstmts_any w.heap.size _ y.l (Nat.le_refl _) y.d lft wr ((HI.out _ hw.out).tsub y hmem) (by omega) (by omega))
       have lb:=(lfSs_le y.l (lft - (y.l.length:Int))).1
       generalize lfSs y.l (lft - (y.l.length:Int))=a1 at*
       clear hC hC1 hdrop hy hrow hmem hrb HC3
       rw[hda]
       rw[hda]at q3
       go_wp2_with fail
       refine CB.out.mono ?_
       rintro e w2 ⟨rfl,hw2⟩
       rw[hw2]
       clear hw2 z0 CB
       go_wp2_with fail
       go_roundw
       case rel=>exact⟨j+1,a1,rfl,by go_num,by omega,by omega,hw,HC1⟩
       case measure=>simp[intOf];omega
     ·obtain rfl:j=p.ts.length:=by omega
      obtain rfl:lft=R:=by have h:=hC.out;rw[List.drop_length,lfTh]at h;exact h
      clear hC HC3
      go_wp2_with (go_at_call 33;refine (C2.out _).mono ?_;rintro e w3 ⟨rfl,rfl⟩)
      go_ret
      exact⟨rfl,HB1.out.trans (hw.out.mono HB1.out.size)⟩
   ·rw[if_neg hneg]at hC1
    have d2:decide (0≤lft)=true:=by simp;omega
    have hmem:=List.mem_of_getElem? hy
    obtain⟨rb,ro,hda,hrb,hrow⟩:=(HI.out _ hw.out).frow (by intro h0;rw[h0]at hlt;simp at hlt)
    have z1:=(hrow j y hy).c1
    have z5:=(hrow j y hy).c5
    have hfl:(y.ps.length:Int)≤140737488355328:=by have:=((HI.out _ hw.out).fsub y hmem).ps.len;unfold lenOk at this;omega
    have HC1:Hid (lfTh p.ts (lfFu (p.fs.drop (j+1)) (lfSs y.body (lft - (y.ps.length:Int) - (y.body.length:Int))))=R):=Lib.hid hC1
    have CB:=Lib.hid (rstmts_any w.heap.size _ y.body (Nat.le_refl _) y.bd (lft - (y.ps.length:Int)) wr.drew ((((HI.out _ hw.out).fsub y hmem).body).keep (Below.refl _ _).drew (Nat.le_refl _)) (by omega) (by omega))
    have lb:=(lfSs_le y.body (lft - (y.ps.length:Int) - (y.body.length:Int))).1
    clear hC hC1 hdrop hy hrow hmem hrb HC2
    rw[hda]
    rw[hda]at q2
    have HWr:Hid (IntKind.i64.wrap (lft - (y.ps.length:Int))=lft - (y.ps.length:Int)):=Lib.hid (by rw[IntKind.wrap_i64];omega)
    have HS:Hid (FuR X rb ro j p.fs.length p.fd.c y wr.drew):=Lib.hid ⟨q2,z1,z5⟩
    generalize lfSs y.body (lft - (y.ps.length:Int) - (y.body.length:Int))=a1 at*
    go_wp2_with fail
    refine wp_region_L (l:=16) (S:=(FuR X rb ro j p.fs.length p.fd.c y)) (by kernel_rfl) ?_ (fun hHeld=>?_)
    ·((try dsimp only);(exact HS.out))
    refine tk 0 ?_
    try simp only[sl1,sl2,sl3,Act.put,sl4,sl5,sl6]
    refine tk 1 ?_
    try simp only[sl1,sl2,sl3,Act.put,sl4,sl5,sl6]
    refine tk 2 ?_
    try simp only[sl1,sl2,sl3,Act.put,sl4,sl5,sl6]
    refine tk 3 ?_
    try simp only[sl1,sl2,sl3,Act.put,sl4,sl5,sl6]
    refine tk 4 ?_
    try simp only[sl1,sl2,sl3,Act.put,sl4,sl5,sl6]
    refine tk 5 ?_
    try simp only[sl1,sl2,sl3,Act.put,sl4,sl5,sl6]
    refine tk 6 ?_
    try simp only[sl1,sl2,sl3,Act.put,sl4,sl5,sl6]
    refine tk 7 ?_
    try simp only[sl1,sl2,sl3,Act.put,sl4,sl5,sl6]
    refine tk 8 ?_
    try simp only[sl1,sl2,sl3,Act.put,sl4,sl5,sl6]
    refine tk 9 ?_
    try simp only[sl1,sl2,sl3,Act.put,sl4,sl5,sl6]
    refine tk 10 ?_
    try simp only[sl1,sl2,sl3,Act.put,sl4,sl5,sl6]
    refine tk 11 ?_
    try simp only[sl1,sl2,sl3,Act.put,sl4,sl5,sl6]
    refine tk 12 ?_
    try simp only[sl1,sl2,sl3,Act.put,sl4,sl5,sl6]
    refine tk 13 ?_
    try simp only[sl1,sl2,sl3,Act.put,sl4,sl5,sl6]
    refine tk 14 ?_
    try simp only[sl1,sl2,sl3,Act.put,sl4,sl5,sl6]
    refine wpAnyL_step (j:=15) (o:=_) (by kernel_rfl) rfl (fun K hK=>?_)
    (go_simp;go_at_call 32;rw[HWr.out];with_reducible refine CB.out.mono ?_;rintro e w2 ⟨rfl,hw2⟩;rw[hw2])
    refine hK _ _ ?_ (fun hHeld=>?_)
    ·((try dsimp only);(exact HS.out))
    clear hK K
    try simp only[sl1,sl2,sl3,Act.put,sl4,sl5,sl6]
    refine wpAnyL_last (j:=16) (o:=_) (by kernel_rfl) rfl (by rfl) (by kernel_rfl) (fun K hK=>?_)
    go_simp
    (refine hK _ _ ?_;clear hK K)
    try simp only[sl1,sl2,sl3,Act.put,sl4,sl5,sl6]
    have hwd:Hid (Below w1.heap.size w1 wr.drew):=Lib.hid hw.out.drew
    clear hHeld HS CB HWr z1 z5 hfl
    go_wp2_with fail
    go_roundw
    case rel=>exact⟨j+1,a1,rfl,by go_num,by omega,by omega,hwd,HC1⟩
    case measure=>simp[intOf];omega
  ·obtain rfl:j=p.fs.length:=by omega
   have HC3:Hid (lfTh p.ts lft=R):=Lib.hid (by have h:=hC.out;rw[List.drop_length,lfFu]at h;exact h)
   clear hC HC2
   go_wp2_with fail
   clear p2 hlt hj
   go_loopw [3,6] (fun lf ii wr=>∃(j:Nat) (lft:Int),lf=.int .i64 lft∧ii=.int .i64 j∧j≤p.ts.length∧lft≤262144∧Hid (Below w1.heap.size w1 wr)∧Hid (lfTh (p.ts.drop j) lft=R)) (fun lf ii _=>p.ts.length - (intOf ii).toNat)
   case atStart=>exact⟨0,_,rfl,rfl,Nat.zero_le _,by omega,hw,Lib.hid (by rw[List.drop_zero];exact HC3.out)⟩
   case round=>
    clear hlt2 hw q0 q1 q2 q3
    obtain⟨j,lft,rfl,rfl,hj,hlt2,hw,hC⟩:=hrel
    obtain⟨q0,q1,q2,q3⟩:=HQ.out _ hw.out
    have p2:(0:Int)≤(j:Int):=Int.natCast_nonneg _
    by_cases hlt:j<p.ts.length
    ·have p1:(j:Int)<(p.ts.length:Int):=by omega
     have d1:decide ((j:Int)<(p.ts.length:Int))=true:=by simpa using hlt
     have d1n:decide (j<p.ts.length)=true:=by simpa using hlt
     obtain⟨y,hy⟩:∃y,p.ts[j]? =some y:=⟨_,List.getElem?_eq_getElem hlt⟩
     have hdrop:p.ts.drop j=y::p.ts.drop (j+1):=by
      have:=List.drop_eq_getElem_cons hlt
      rw[List.getElem?_eq_getElem hlt]at hy
      injection hy with hy
      rw[this,hy]
     have hC1:=hC.out
     rw[hdrop,lfTh]at hC1
     by_cases hneg:lft<0
     ·rw[if_pos hneg]at hC1
      obtain rfl:lft=R:=hC1
      have d2:decide (0≤lft)=false:=by simp;omega
      clear hC hdrop hy HC3
      go_wp2_with (go_at_call 33;refine (C2.out _).mono ?_;rintro e w3 ⟨rfl,rfl⟩)
      go_ret
      exact⟨rfl,HB1.out.trans (hw.out.mono HB1.out.size)⟩
     ·rw[if_neg hneg]at hC1
      have d2:decide (0≤lft)=true:=by simp;omega
      have hmem:=List.mem_of_getElem? hy
      obtain⟨rb,ro,hda,hrb,hrow⟩:=(HI.out _ hw.out).trow (by intro h0;rw[h0]at hlt;simp at hlt)
      have z0:=(hrow j y hy).c0
      rw[Nat.mul_one]at z0
      have HC1:Hid (lfTh (p.ts.drop (j+1)) (lfSs y.l (lft - (y.l.length:Int)))=R):=Lib.hid hC1
      have CB:=Lib.hid (rstmts_any w.heap.size _ y.l (Nat.le_refl _) y.d lft wr ((HI.out _ hw.out).tsub y hmem) (by omega) (by omega))
      have lb:=(lfSs_le y.l (lft - (y.l.length:Int))).1
      generalize lfSs y.l (lft - (y.l.length:Int))=a1 at*
      clear hC hC1 hdrop hy hrow hmem hrb HC3
      rw[hda]
      rw[hda]at q3
      go_wp2_with fail
      refine CB.out.mono ?_
      rintro e w2 ⟨rfl,hw2⟩
      rw[hw2]
      clear hw2 z0 CB
      go_wp2_with fail
      go_roundw
      case rel=>exact⟨j+1,a1,rfl,by go_num,by omega,by omega,hw,HC1⟩
      case measure=>simp[intOf];omega
    ·obtain rfl:j=p.ts.length:=by omega
     obtain rfl:lft=R:=by have h:=hC.out;rw[List.drop_length,lfTh]at h;exact h
     clear hC HC3
     go_wp2_with (go_at_call 33;refine (C2.out _).mono ?_;rintro e w3 ⟨rfl,rfl⟩)
     go_ret
     exact⟨rfl,HB1.out.trans (hw.out.mono HB1.out.size)⟩):P:=h
theorem exCounts_mem:∀{l:List Ex} {y:Ex},y∈l→exCount y≤exCounts l
 |x::r,y,h=>by
  rw[exCounts]
  rcases List.mem_cons.1 h with rfl|h
  ·omega
  ·have:=exCounts_mem h;omega
structure ExsIn (w:World) (B:Nat) (d:Hd) (l:List Ex):Prop where
 len:lenOk l.length
 row:RowIn ExAt 7 w B d l
 sub:∀y,y∈l→ExIn w B y
theorem ExIn.args {w:World} {B:Nat} {x:Ex} (h:ExIn w B x):ExsIn w B x.d x.args:=⟨h.len,h.row,h.sub⟩
set_option maxHeartbeats 4000000 in
set_option maxRecDepth 100000 in
theorem rexprs_any (B:Nat):∀(sz:Nat) (l:List Ex),exCounts l≤sz→∀(d:Hd) (left:Int) (w:World),ExsIn w B d l→0≤left→left≤262144→
  Calls Tryz.prog 67 #[.slice d.a l.length d.c,.int .i64 left] w fun e w'=>e=.returned (.int .i64 (lfL l (left - (l.length:Int))))∧w'=w:=by
 intro sz
 induction sz using Nat.strongRecOn with
 |ind sz ih=>
 intro l hsz d left w hI h0 h1
 obtain⟨R,hR⟩:∃R,lfL l (left - (l.length:Int))=R:=⟨_,rfl⟩
 rw[hR]
 have HR:=Lib.hid hR
 have HI:=Lib.hid hI
 have hlen:l.length≤140737488355328:=hI.len
 clear hR hI
 go_enter Tryz.func67,Tryz.ntmps67
 go_wp2_with fail
 go_loopw [1,5] (fun lf ii wr=>∃(j:Nat) (lft:Int),lf=.int .i64 lft∧ii=.int .i64 j∧j≤l.length∧lft≤262144∧Hid (wr=w)∧Hid (lfL (l.drop j) lft=R)) (fun lf ii _=>l.length - (intOf ii).toNat)
 case atStart=>exact⟨0,left - (l.length:Int),by go_num,rfl,Nat.zero_le _,by omega,Lib.hid rfl,Lib.hid (by rw[List.drop_zero];exact HR.out)⟩
 case round=>
  obtain⟨j,lft,rfl,rfl,hj,hlt2,hw,hC⟩:=hrel
  obtain rfl:=hw.out
  have p2:(0:Int)≤(j:Int):=Int.natCast_nonneg _
  by_cases hlt:j<l.length
  ·have p1:(j:Int)<(l.length:Int):=by omega
   have d1:decide ((j:Int)<(l.length:Int))=true:=by simpa using hlt
   have d1n:decide (j<l.length)=true:=by simpa using hlt
   obtain⟨y,hy⟩:∃y,l[j]? =some y:=⟨_,List.getElem?_eq_getElem hlt⟩
   have hdrop:l.drop j=y::l.drop (j+1):=by
    have:=List.drop_eq_getElem_cons hlt
    rw[List.getElem?_eq_getElem hlt]at hy
    injection hy with hy
    rw[this,hy]
   have hC1:=hC.out
   rw[hdrop,lfL]at hC1
   by_cases hneg:lft<0
   ·obtain rfl:lft=R:=by rw[if_pos hneg]at hC1;exact hC1
    have d2:decide (0≤lft)=false:=by simp;omega
    clear hC hC1 hdrop hy
    go_wp2_with fail
    go_ret
    exact⟨rfl,rfl⟩
   ·rw[if_neg hneg]at hC1
    have d2:decide (0≤lft)=true:=by simp;omega
    have hmem:=List.mem_of_getElem? hy
    obtain⟨rb,ro,hda,hrb,hrow⟩:=HI.out.row (by intro h0;rw[h0]at hlt;simp at hlt)
    have z6:=(hrow j y hy).c6
    have hyI:=HI.out.sub y hmem
    have hcnt:exCounts y.args<exCount y:=by
     obtain⟨k,n,nm,t,d,args⟩:=y
     rw[exCount,Ex.args];omega
    have hcl:=exCounts_mem hmem
    have C:=Lib.hid (ih (exCounts y.args) (by omega) y.args (Nat.le_refl _) y.d lft wr hyI.args (by omega) hlt2)
    have HC1:Hid (lfL (l.drop (j+1)) (lfE y lft)=R):=Lib.hid hC1
    have hle:=(lfE_le y lft).1
    have hE:lfL y.args (lft - (y.args.length:Int))=lfE y lft:=by
     obtain⟨k,n,nm,t,d,args⟩:=y
     rw[lfE,Ex.args]
    rw[hE]at C
    generalize lfE y lft=lf2 at*
    clear hC hC1 hdrop hy hcnt hcl hyI hrow hmem hE hrb ih
    rw[hda]
    go_wp2_with fail
    refine C.out.mono ?_
    rintro e w2 ⟨rfl,hw2⟩
    rw[hw2]
    clear hw2 z6 C
    go_wp2_with fail
    go_roundw
    case rel=>exact⟨j+1,lf2,rfl,by go_num,by omega,by omega,(by first|exact Lib.hid trivial|exact Lib.hid rfl|trivial),HC1⟩
    case measure=>simp[intOf];omega
  ·obtain rfl:j=l.length:=by omega
   obtain rfl:lft=R:=by have h:=hC.out;rw[List.drop_length,lfL]at h;exact h
   clear hC ih
   go_wp2_with fail
   go_ret
   exact⟨rfl,rfl⟩
theorem counted_any (left:Int) (h: -140737488355328≤left∨True) (h1:left≤262144) (w:World):
  Calls Tryz.prog 33 #[.int .i64 left] w fun e w'=>e=.returned (.int .i64 (cntS left))∧w=w':=by
 clear h
 by_cases hn:left<0
 ·rw[show cntS left=262145 by unfold cntS;rw[if_pos hn]]
  go_enter Tryz.func33,Tryz.ntmps33
  go_wp2
  go_ret
  exact⟨rfl,rfl⟩
 ·rw[show cntS left=262144 - left by unfold cntS;rw[if_neg hn]]
  have e0:IntKind.i64.wrap (262144 - left)=262144 - left:=by rw[IntKind.wrap_i64];omega
  go_enter Tryz.func33,Tryz.ntmps33
  go_wp2
  go_ret
  exact⟨rfl,rfl⟩
end Go.Proofs.YtkklogikakcanaaGreatDoor
namespace Go.Proofs.YtkklogikakcanaaGreatDoor
open Go.RowKit
def lfRs:List Re→Int→Int
 |[],left=>left
 |r::l,left=>if left<0 then left else lfRs l (left - (r.fs.length:Int))
def lfFu:List Fu→Int→Int
 |[],left=>left
 |f::l,left=>if left<0 then left else lfFu l (lfSs f.body (left - (f.ps.length:Int) - (f.body.length:Int)))
def lfTh:List Th→Int→Int
 |[],left=>left
 |t::l,left=>if left<0 then left else lfTh l (lfSs t.l (left - (t.l.length:Int)))
def prL0 (p:Pr):Int:=262144 - (p.ss.length:Int) - (p.rs.length:Int) - (p.fs.length:Int) - (p.ts.length:Int)
def prLeft (p:Pr):Int:=lfTh p.ts (lfFu p.fs (lfRs p.rs (prL0 p)))
def prSizeS (p:Pr):Int:=cntS (prLeft p)
theorem lfRs_le:∀(l:List Re) (left:Int),lfRs l left≤left∧(0≤lfRs l left→∀r∈l,(r.fs.length:Int)≤left)
 |[],left=>by rw[lfRs];exact⟨Int.le_refl _,fun _ r hr=>by cases hr⟩
 |r::l,left=>by
  rw[lfRs]
  split
  ·next h=>exact⟨Int.le_refl _,fun h2=>absurd h (by omega)⟩
  ·obtain⟨h1,h2⟩:=lfRs_le l (left - (r.fs.length:Int))
   refine⟨by omega,fun h0 x hx=>?_⟩
   rcases List.mem_cons.1 hx with rfl|hx
   ·omega
   ·have:=h2 h0 x hx;omega
theorem lfFu_le:∀(l:List Fu) (left:Int),lfFu l left≤left∧(0≤lfFu l left→(∀f∈l,(f.ps.length:Int)≤left∧(stAlls f.body:Int)≤left )∧((l.map fun f=>stAlls f.body).sum:Nat)+lfFu l left≤left)
 |[],left=>by rw[lfFu];exact⟨Int.le_refl _,fun _=>⟨fun r hr=>(by cases hr),by simp⟩⟩
 |f::l,left=>by
  rw[lfFu]
  split
  ·next h=>exact⟨Int.le_refl _,fun h2=>absurd h (by omega)⟩
  ·obtain⟨h1,h2⟩:=lfFu_le l (lfSs f.body (left - (f.ps.length:Int) - (f.body.length:Int)))
   obtain⟨h3,h4⟩:=lfSs_le f.body (left - (f.ps.length:Int) - (f.body.length:Int))
   exact q9k7m_2
theorem lfTh_le:∀(l:List Th) (left:Int),lfTh l left≤left∧(0≤lfTh l left→(∀f∈l,(stAlls f.l:Int)≤left )∧((l.map fun f=>stAlls f.l).sum:Nat)+lfTh l left≤left)
 |[],left=>by rw[lfTh];exact⟨Int.le_refl _,fun _=>⟨fun r hr=>(by cases hr),by simp⟩⟩
 |f::l,left=>by
  rw[lfTh]
  split
  ·next h=>exact⟨Int.le_refl _,fun h2=>absurd h (by omega)⟩
  ·obtain⟨h1,h2⟩:=lfTh_le l (lfSs f.l (left - (f.l.length:Int)))
   obtain⟨h3,h4⟩:=lfSs_le f.l (left - (f.l.length:Int))
   exact q9k7m_2
structure PrSmall (p:Pr):Prop where
 heads:p.rs.length+p.ss.length+p.fs.length+p.ts.length≤262144
 recs:∀r∈p.rs,r.fs.length≤262144
 funs:∀f∈p.fs,f.ps.length≤262144∧stAlls f.body≤262144
 thrs:∀t∈p.ts,stAlls t.l≤262144
 all:p.rs.length+p.ss.length+p.fs.length+p.ts.length+((p.fs.map fun f=>stAlls f.body).sum+(p.ts.map fun t=>stAlls t.l).sum)≤262144
theorem prSize_small {p:Pr} (h:prSizeS p≤262144):PrSmall p:=by
 unfold prSizeS cntS at h
 split at h
 ·omega
 ·next hn=>
  unfold prLeft at hn
  obtain⟨t1,t2⟩:=lfTh_le p.ts (lfFu p.fs (lfRs p.rs (prL0 p)))
  obtain⟨f1,f2⟩:=lfFu_le p.fs (lfRs p.rs (prL0 p))
  obtain⟨r1,r2⟩:=lfRs_le p.rs (prL0 p)
  obtain⟨t3,t4⟩:=t2 (by omega)
  obtain⟨f3,f4⟩:=f2 (by omega)
  have r3:=r2 (by omega)
  have h0:prL0 p=262144 - (p.ss.length:Int) - (p.rs.length:Int) - (p.fs.length:Int) - (p.ts.length:Int):=rfl
  refine⟨by omega,fun r hr=>?_,fun f hf=>?_,fun t ht=>?_,by omega⟩
  ·have:=r3 r hr;omega
  ·have:=f3 f hf;omega
  ·have:=t3 t ht;omega
theorem prSize_range (p:Pr):0≤prSizeS p∧prSizeS p≤262145:=by
 unfold prSizeS cntS prLeft
 obtain⟨t1,t2⟩:=lfTh_le p.ts (lfFu p.fs (lfRs p.rs (prL0 p)))
 obtain⟨f1,f2⟩:=lfFu_le p.fs (lfRs p.rs (prL0 p))
 obtain⟨r1,r2⟩:=lfRs_le p.rs (prL0 p)
 have h0:prL0 p=262144 - (p.ss.length:Int) - (p.rs.length:Int) - (p.fs.length:Int) - (p.ts.length:Int):=rfl
 split<;>omega
theorem stAlls_mem:∀{l:List St} {s:St},s∈l→stAll s≤stAlls l
 |x::r,s,h=>by
  rw[stAlls]
  rcases List.mem_cons.1 h with rfl|h
  ·omega
  ·have:=stAlls_mem h;omega
theorem stAlls_len:∀l:List St,l.length≤stAlls l
 |[]=>Nat.zero_le _
 |s::r=>by
  rw[stAlls,List.length_cons]
  have:=stAlls_len r
  obtain⟨k,nm,t,x,y,bd,body,ed,els⟩:=s
  rw[stAll];omega
set_option maxHeartbeats 8000000 in
set_option maxRecDepth 100000 in
theorem rstmts_any (B:Nat):∀(sz:Nat) (l:List St),stAlls l≤sz→∀(d:Hd) (left:Int) (w:World),StsIn w B d l→-140737488355328≤left→left≤262144→
  Calls Tryz.prog 32 #[.slice d.a l.length d.c,.int .i64 left] w fun e w'=>e=.returned (.int .i64 (lfSs l (left - (l.length:Int))))∧w'=w:=by
 intro sz
 induction sz using Nat.strongRecOn with
 |ind sz ih=>
 intro l hsz d left w hI h0 h1
 obtain⟨R,hR⟩:∃R,lfSs l (left - (l.length:Int))=R:=⟨_,rfl⟩
 rw[hR]
 have HR:=Lib.hid hR
 have HI:=Lib.hid hI
 have hlen:l.length≤140737488355328:=hI.len
 clear hR hI
 go_enter Tryz.func32,Tryz.ntmps32
 go_wp2_with fail
 go_loopw [1,5] (fun lf ii wr=>∃(j:Nat) (lft:Int),lf=.int .i64 lft∧ii=.int .i64 j∧j≤l.length∧lft≤262144∧Hid (wr=w)∧Hid (lfSs (l.drop j) lft=R)) (fun lf ii _=>l.length - (intOf ii).toNat)
 case atStart=>exact⟨0,left - (l.length:Int),by go_num,rfl,Nat.zero_le _,by omega,Lib.hid rfl,Lib.hid (by rw[List.drop_zero];exact HR.out)⟩
 case round=>
  obtain⟨j,lft,rfl,rfl,hj,hlt2,hw,hC⟩:=hrel
  obtain rfl:=hw.out
  have p2:(0:Int)≤(j:Int):=Int.natCast_nonneg _
  by_cases hlt:j<l.length
  ·have p1:(j:Int)<(l.length:Int):=by omega
   have d1:decide ((j:Int)<(l.length:Int))=true:=by simpa using hlt
   have d1n:decide (j<l.length)=true:=by simpa using hlt
   obtain⟨y,hy⟩:∃y,l[j]? =some y:=⟨_,List.getElem?_eq_getElem hlt⟩
   have hdrop:l.drop j=y::l.drop (j+1):=by
    have:=List.drop_eq_getElem_cons hlt
    rw[List.getElem?_eq_getElem hlt]at hy
    injection hy with hy
    rw[this,hy]
   have hC1:=hC.out
   rw[hdrop,lfSs]at hC1
   by_cases hneg:lft<0
   ·obtain rfl:lft=R:=by rw[if_pos hneg]at hC1;exact hC1
    have d2:decide (0≤lft)=false:=by simp;omega
    clear hC hC1 hdrop hy
    go_wp2_with fail
    go_ret
    exact⟨rfl,rfl⟩
   ·rw[if_neg hneg]at hC1
    have d2:decide (0≤lft)=true:=by simp;omega
    have hmem:=List.mem_of_getElem? hy
    obtain⟨rb,ro,hda,hrb,hrow⟩:=HI.out.row (by intro h0;rw[h0]at hlt;simp at hlt)
    have hsa:=hrow j y hy
    have z9:=hsa.x.c6
    have z16:=hsa.y.c6
    have z19:=hsa.c19
    have z20:=hsa.c20
    rw[Nat.add_assoc]at z9 z16
    simp only[Nat.reduceAdd]at z9 z16
    have hyI:=HI.out.sub y hmem
    have hcl:=stAlls_mem hmem
    obtain⟨k,nm,t,x,u,bd,body,ed,els⟩:=y
    rw[stAll]at hcl
    dsimp only[St.x,St.y,St.bd,St.body,St.ed,St.els]at z9 z16 z19 z20
    have CX:=Lib.hid (rexprs_any B _ x.args (Nat.le_refl _) x.d lft wr hyI.x.args (by omega) hlt2)
    have hEx:lfL x.args (lft - (x.args.length:Int))=lfE x lft:=by
     obtain⟨k,n,nm,t,d,args⟩:=x
     rw[lfE,Ex.args]
    rw[hEx]at CX
    rw[lfS]at hC1
    have lx:=(lfE_le x lft).1
    have CY:Hid (∀a:Int,0≤a→a≤262144→Calls Tryz.prog 67 #[.slice u.d.a u.args.length u.d.c,.int .i64 a] wr fun e w'=>e=.returned (.int .i64 (lfE u a))∧w'=wr):=Lib.hid fun a ha hb=>by
     have h:=rexprs_any B _ u.args (Nat.le_refl _) u.d a wr hyI.y.args ha hb
     have hEu:lfL u.args (a - (u.args.length:Int))=lfE u a:=by
      obtain⟨k,n,nm,t,d,args⟩:=u
      rw[lfE,Ex.args]
     rwa [hEu]at h
    have CB:Hid (∀a:Int,-140737488355328≤a→a≤262144→Calls Tryz.prog 32 #[.slice bd.a body.length bd.c,.int .i64 a] wr fun e w'=>e=.returned (.int .i64 (lfSs body (a - (body.length:Int))))∧w'=wr):=Lib.hid fun a ha hb=>ih (stAlls body) (by omega) body (Nat.le_refl _) bd a wr hyI.body ha hb
    have CE:Hid (∀a:Int,-140737488355328≤a→a≤262144→Calls Tryz.prog 32 #[.slice ed.a els.length ed.c,.int .i64 a] wr fun e w'=>e=.returned (.int .i64 (lfSs els (a - (els.length:Int))))∧w'=wr):=Lib.hid fun a ha hb=>ih (stAlls els) (by omega) els (Nat.le_refl _) ed a wr hyI.els ha hb
    clear hC hdrop hy hcl hyI hrow hmem hrb ih hEx hsa
    rw[hda]
    go_wp2_with fail
    refine CX.out.mono ?_
    rintro e w2 ⟨rfl,hw2⟩
    rw[hw2]
    clear hw2 z9 CX
    generalize lfE x lft=a1 at*
    by_cases n1:a1<0
    ·rw[if_pos n1]at hC1
     have e1:decide (0≤a1)=false:=by simp;omega
     have HC1:Hid (lfSs (l.drop (j+1)) a1=R):=Lib.hid hC1
     clear hC1 CY CB CE z16 z19 z20
     go_wp2_with fail
     go_roundw
     case rel=>exact⟨j+1,a1,rfl,by go_num,by omega,by omega,(by first|exact Lib.hid trivial|exact Lib.hid rfl|trivial),HC1⟩
     case measure=>simp[intOf];omega
    rw[if_neg n1]at hC1
    have e1:decide (0≤a1)=true:=by simp;omega
    have ly:=(lfE_le u a1).1
    go_wp2_with fail
    refine (CY.out a1 (by omega) (by omega)).mono ?_
    rintro e w2 ⟨rfl,hw2⟩
    rw[hw2]
    clear hw2 z16 CY
    generalize lfE u a1=a2 at*
    by_cases n2:a2<0
    ·rw[if_pos n2]at hC1
     have e2:decide (0≤a2)=false:=by simp;omega
     have HC1:Hid (lfSs (l.drop (j+1)) a2=R):=Lib.hid hC1
     clear hC1 CB CE z19 z20
     go_wp2_with fail
     go_roundw
     case rel=>exact⟨j+1,a2,rfl,by go_num,by omega,by omega,(by first|exact Lib.hid trivial|exact Lib.hid rfl|trivial),HC1⟩
     case measure=>simp[intOf];omega
    rw[if_neg n2]at hC1
    have e2:decide (0≤a2)=true:=by simp;omega
    have lb:=(lfSs_le body (a2 - (body.length:Int))).1
    go_wp2_with fail
    refine (CB.out a2 (by omega) (by omega)).mono ?_
    rintro e w2 ⟨rfl,hw2⟩
    rw[hw2]
    clear hw2 z19 CB
    generalize lfSs body (a2 - (body.length:Int))=a3 at*
    by_cases n3:a3<0
    ·rw[if_pos n3]at hC1
     have e3:decide (0≤a3)=false:=by simp;omega
     have HC1:Hid (lfSs (l.drop (j+1)) a3=R):=Lib.hid hC1
     clear hC1 CE z20
     go_wp2_with fail
     go_roundw
     case rel=>exact⟨j+1,a3,rfl,by go_num,by omega,by omega,(by first|exact Lib.hid trivial|exact Lib.hid rfl|trivial),HC1⟩
     case measure=>simp[intOf];omega
    rw[if_neg n3]at hC1
    have e3:decide (0≤a3)=true:=by simp;omega
    have le:=(lfSs_le els (a3 - (els.length:Int))).1
    go_wp2_with fail
    refine (CE.out a3 (by omega) (by omega)).mono ?_
    rintro e w2 ⟨rfl,hw2⟩
    rw[hw2]
    clear hw2 z20 CE
    generalize lfSs els (a3 - (els.length:Int))=a4 at*
    have HC1:Hid (lfSs (l.drop (j+1)) a4=R):=Lib.hid hC1
    clear hC1
    go_wp2_with fail
    go_roundw
    case rel=>exact⟨j+1,a4,rfl,by go_num,by omega,by omega,(by first|exact Lib.hid trivial|exact Lib.hid rfl|trivial),HC1⟩
    case measure=>simp[intOf];omega
  ·obtain rfl:j=l.length:=by omega
   obtain rfl:lft=R:=by have h:=hC.out;rw[List.drop_length,lfSs]at h;exact h
   clear hC ih
   go_wp2_with fail
   go_ret
   exact⟨rfl,rfl⟩
abbrev FuR (X rb ro j n c:Nat) (y:Fu) (W:World):Prop:=W.cell? ⟨X,2,none⟩=some (.slice (some ⟨rb,ro,none⟩) n c)∧W.cell? ⟨rb,ro+j*6+1,none⟩=some (.slice y.pd.a y.ps.length y.pd.c)∧W.cell? ⟨rb,ro+j*6+5,none⟩=some (.slice y.bd.a y.body.length y.bd.c)
set_option maxHeartbeats 8000000 in
set_option maxRecDepth 100000 in
theorem prsize_any (p:Pr) (w:World) (hI:PrIn w w.heap.size p):
  Calls Tryz.prog 8 #[p.val] w fun e w'=>e=.returned (.int .i64 (prSizeS p))∧Below w.heap.size w w':=by
 obtain⟨X,hX⟩:∃X,w.heap.size=X:=⟨_,rfl⟩
 obtain⟨w1,hw1⟩:∃w1,w.alloc (.cells #[.slice p.rd.a p.rs.length p.rd.c,.slice p.sd.a p.ss.length p.sd.c,.slice p.fd.a p.fs.length p.fd.c,.slice p.td.a p.ts.length p.td.c] 27 (0,0))=w1:=⟨_,rfl⟩
 have hb1:Below w.heap.size w w1:=by rw[←hw1];exact (Below.refl _ _).alloc (Nat.le_refl _) _
 have x1:w1.heap[X]? =some (.cells #[.slice p.rd.a p.rs.length p.rd.c,.slice p.sd.a p.ss.length p.sd.c,.slice p.fd.a p.fs.length p.fd.c,.slice p.td.a p.ts.length p.td.c] 27 (0,0)):=by rw[←hw1,←hX];exact heap_alloc_new w _
 have HI:Hid (∀W,Below w1.heap.size w1 W→PrIn W w.heap.size p):=Lib.hid fun W hb=>hI.keep (hb1.trans (hb.mono hb1.size)) (Nat.le_refl _)
 obtain⟨R,hR⟩:∃R,prLeft p=R:=⟨_,rfl⟩
 have hRle:R≤262144:=by
  rw[←hR]
  unfold prLeft
  have t1:=(lfTh_le p.ts (lfFu p.fs (lfRs p.rs (prL0 p)))).1
  have f1:=(lfFu_le p.fs (lfRs p.rs (prL0 p))).1
  have r1:=(lfRs_le p.rs (prL0 p)).1
  have h0:prL0 p=262144 - (p.ss.length:Int) - (p.rs.length:Int) - (p.fs.length:Int) - (p.ts.length:Int):=rfl
  omega
 have C2:=Lib.hid (fun W=>counted_any R (Or.inr trivial) hRle W)
 have hS:prSizeS p=cntS R:=by rw[←hR];rfl
 rw[hS]
 have HR:Hid (lfTh p.ts (lfFu p.fs (lfRs p.rs (prL0 p)))=R):=Lib.hid hR
 have HN:=Lib.hid (And.intro hX hw1)
 have HB1:=Lib.hid hb1
 have q0:=cell_at x1 0
 have q1:=cell_at x1 1
 have q2:=cell_at x1 2
 have q3:=cell_at x1 3
 simp only[sl7,sl8,sl9]at q0 q1 q2 q3
 have HQ:Hid (∀W,Below w1.heap.size w1 W→W.cell? ⟨X,0,none⟩=some (.slice p.rd.a p.rs.length p.rd.c)∧W.cell? ⟨X,1,none⟩=some (.slice p.sd.a p.ss.length p.sd.c)∧W.cell? ⟨X,2,none⟩=some (.slice p.fd.a p.fs.length p.fd.c)∧W.cell? ⟨X,3,none⟩=some (.slice p.td.a p.ts.length p.td.c)):=Lib.hid fun W hb=>by
  have hx:=(Array.getElem?_eq_some_iff.1 x1).1
  exact⟨(hb.cell (p:=⟨X,0,none⟩) hx).trans q0,(hb.cell (p:=⟨X,1,none⟩) hx).trans q1,(hb.cell (p:=⟨X,2,none⟩) hx).trans q2,(hb.cell (p:=⟨X,3,none⟩) hx).trans q3⟩
 have l0:(p.rs.length:Int)≤140737488355328:=by have:=hI.rlen;unfold lenOk at this;omega
 have l1:(p.ss.length:Int)≤140737488355328:=by have:=hI.ss.len;unfold lenOk at this;omega
 have l2:(p.fs.length:Int)≤140737488355328:=by have:=hI.flen;unfold lenOk at this;omega
 have l3:(p.ts.length:Int)≤140737488355328:=by have:=hI.tlen;unfold lenOk at this;omega
 rw[←hw1,←hX]at q0 q1 q2 q3
 have hL0:prL0 p=262144 - (p.ss.length:Int) - (p.rs.length:Int) - (p.fs.length:Int) - (p.ts.length:Int):=rfl
 have HL0:=Lib.hid hL0
 clear hX hw1 hb1 x1 hI hR hS hRle hL0
 go_enter Tryz.func8,Tryz.ntmps8
 go_wp2_with fail
 simp only[HN.out.1,HN.out.2]
 clear q0 q1 q2 q3
 go_loopw [3,4] (fun lf ii wr=>∃(j:Nat) (lft:Int),lf=.int .i64 lft∧ii=.int .i64 j∧j≤p.rs.length∧lft≤262144∧-1000000000000000≤lft∧Hid (Below w1.heap.size w1 wr)∧Hid (lfTh p.ts (lfFu p.fs (lfRs (p.rs.drop j) lft))=R)) (fun lf ii _=>p.rs.length - (intOf ii).toNat)
 case atStart=>exact⟨0,_,rfl,rfl,Nat.zero_le _,by omega,by omega,Lib.hid (Below.refl _ _),Lib.hid (by rw[List.drop_zero,←HL0.out];exact HR.out)⟩
 case round=>
  obtain⟨j,lft,rfl,rfl,hj,hlt2,hlt3,hw,hC⟩:=hrel
  obtain⟨q0,q1,q2,q3⟩:=HQ.out _ hw.out
  have p2:(0:Int)≤(j:Int):=Int.natCast_nonneg _
  by_cases hlt:j<p.rs.length
  ·have p1:(j:Int)<(p.rs.length:Int):=by omega
   have d1:decide ((j:Int)<(p.rs.length:Int))=true:=by simpa using hlt
   have d1n:decide (j<p.rs.length)=true:=by simpa using hlt
   obtain⟨y,hy⟩:∃y,p.rs[j]? =some y:=⟨_,List.getElem?_eq_getElem hlt⟩
   have hdrop:p.rs.drop j=y::p.rs.drop (j+1):=by
    have:=List.drop_eq_getElem_cons hlt
    rw[List.getElem?_eq_getElem hlt]at hy
    injection hy with hy
    rw[this,hy]
   have hC1:=hC.out
   rw[hdrop,lfRs]at hC1
   by_cases hneg:lft<0
   ·rw[if_pos hneg]at hC1
    have HC2:=Lib.hid hC1
    have d2:decide (0≤lft)=false:=by simp;omega
    clear hC hC1 hdrop hy
    go_wp2_with fail
    clear p1 p2 d1 d1n d2 hlt hj
    exact q9k7m_1
   ·rw[if_neg hneg]at hC1
    have d2:decide (0≤lft)=true:=by simp;omega
    have hmem:=List.mem_of_getElem? hy
    obtain⟨rb,ro,hda,hrb,hrow⟩:=(HI.out _ hw.out).rrow (by intro h0;rw[h0]at hlt;simp at hlt)
    have z1:=(hrow j y hy).c1
    have hfl:(y.fs.length:Int)≤140737488355328:=by have:=((HI.out _ hw.out).rsub y hmem).fs.len;unfold lenOk at this;omega
    have HC1:Hid (lfTh p.ts (lfFu p.fs (lfRs (p.rs.drop (j+1)) (lft - (y.fs.length:Int))))=R):=Lib.hid hC1
    clear hC hC1 hdrop hy hrow hmem hrb
    rw[hda]
    rw[hda]at q0
    go_wp2_with fail
    go_roundw
    case rel=>exact⟨j+1,_,rfl,by go_num,by omega,by omega,by omega,hw,HC1⟩
    case measure=>simp[intOf];omega
  ·obtain rfl:j=p.rs.length:=by omega
   have HC2:Hid (lfTh p.ts (lfFu p.fs lft)=R):=Lib.hid (by have h:=hC.out;rw[List.drop_length,lfRs]at h;exact h)
   clear hC
   go_wp2_with fail
   clear p2 hlt hj
   exact q9k7m_1
end Go.Proofs.YtkklogikakcanaaGreatDoor
