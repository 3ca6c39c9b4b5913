import Derived.Test.YtkklogikakcanaaGreatDoorTwC
import Derived.Test.YtkklogikakcanaaGreatDoorSizeA
import Derived.Test.YtkklogikakcanaaGreatDoorTreeL
set_option linter.unusedVariables false
set_option linter.unusedSimpArgs false
open List renaming getElem_toArray → sl1, getElem_cons_zero → sl2, getElem_cons_succ → sl3, setIfInBounds_toArray → sl4, set_cons_zero → sl5, set_cons_succ → sl6
namespace Go.Proofs.YtkklogikakcanaaGreatDoor
open Go Go.RowKit
abbrev PlS (rb o:Nat) (bd ed:Hd) (nb ne:Nat) (W:World):Prop:=W.cell? ⟨rb,o+19,none⟩=some (.slice bd.a nb bd.c)∧W.cell? ⟨rb,o+20,none⟩=some (.slice ed.a ne ed.c)
abbrev RPl (l:List St):Prop:=∀(d:Hd) (w:World),StsIn w w.heap.size d l→
 Calls Tryz.prog 46 #[.slice d.a l.length d.c] w fun e w'=>e=.returned (.int .i64 (plSts l:Nat))∧Below w.heap.size w w'
set_option maxHeartbeats 4000000 in
set_option maxRecDepth 100000 in
theorem rplaces_of (l:List St) (hs:plSts l≤1000000) (hl:l.length≤1000000) (ih:∀s∈l,∀k nm t x y bd body ed els,s=.mk k nm t x y bd body ed els→RPl body∧RPl els∧plSts body+plSts els≤1000000):RPl l:=by
 intro d w hI
 have HI:Hid (∀W,Below w.heap.size w W→StsIn W W.heap.size d l):=Lib.hid fun W hb=>hI.keep hb hb.size
 have HB0:Hid (Below w.heap.size w w):=Lib.hid (Below.refl _ _)
 clear hI
 go_enter Tryz.func46,Tryz.ntmps46
 go_wp2_with fail
 go_loopw [3,4] (fun nn ii wr=>∃(j a:Nat),nn=.int .i64 a∧ii=.int .i64 j∧j≤l.length∧a+plSts (l.drop j)=plSts l∧Hid (Below w.heap.size w wr)) (fun nn ii _=>l.length - (intOf ii).toNat)
 case atStart=>exact⟨0,0,rfl,rfl,Nat.zero_le _,by rw[List.drop_zero,Nat.zero_add],HB0⟩
 case round=>
  obtain⟨j,a,rfl,rfl,hj,ha,hB⟩:=hrel
  clear HB0
  have p2:(0:Int)≤(j:Int):=Int.natCast_nonneg _
  by_cases hlt:j<l.length
  ·have p1:(j:Int)<(l.length:Int):=by omega
   obtain⟨y,hy⟩:∃y,l[j]? =some y:=⟨_,List.getElem?_eq_getElem hlt⟩
   have hdrop:l.drop j=y::l.drop (j+1):=by
    have:=List.drop_eq_getElem_cons hlt
    rw[List.getElem?_eq_getElem hlt]at hy
    injection hy with hy
    rw[this,hy]
   rw[hdrop,plSts]at ha
   have hmem:=List.mem_of_getElem? hy
   obtain⟨rb,ro,hda,-,hrow⟩:=(HI.out _ hB.out).row (by intro h0;rw[h0]at hlt;simp at hlt)
   have hz:=hrow j y hy
   have hsub:=(HI.out _ hB.out.drew).sub y hmem
   obtain⟨k,nm,t,x,y2,bd,body,ed,els⟩:=y
   obtain⟨ib,ie,hbe⟩:=ih _ hmem k nm t x y2 bd body ed els rfl
   have hin:StsIn wr.drew wr.drew.heap.size bd body∧StsIn wr.drew wr.drew.heap.size ed els:=by
    cases hsub with
    |mk hk hnm ht hx hy hbl hel brow erow bsub esub=>exact⟨⟨hbl,brow,bsub⟩,⟨hel,erow,esub⟩⟩
   have CB:=Lib.hid (ib bd wr.drew hin.1)
   have CE:Hid (∀W,Below wr.drew.heap.size wr.drew W→Calls Tryz.prog 46 #[.slice ed.a els.length ed.c] W fun e w'=>e=.returned (.int .i64 (plSts els:Nat))∧Below W.heap.size W w'):=Lib.hid fun W hb=>ie ed W (hin.2.keep hb hb.size)
   rw[plSt]at ha
   have HS:Hid (PlS rb (ro+j*21) bd ed body.length els.length wr.drew):=Lib.hid ⟨hz.c19,hz.c20⟩
   have HBd:Hid (Below w.heap.size w wr.drew):=Lib.hid hB.out.drew
   have w1:IntKind.i64.wrap ((a:Int)+1)=(a:Int)+1:=by rw[IntKind.wrap_i64];omega
   have w2:IntKind.i64.wrap ((a:Int)+1+(plSts body:Nat))=(a:Int)+1+(plSts body:Nat):=by rw[IntKind.wrap_i64];omega
   have w3:IntKind.i64.wrap ((a:Int)+1+(plSts body:Nat)+(plSts els:Nat))=((a+1+plSts body+plSts els:Nat):Int):=by rw[IntKind.wrap_i64];omega
   clear hz hsub hin hrow hy hdrop hmem ib ie
   rw[hda]
   go_wp2_with fail
   refine wp_region_L (l:=16) (S:=(PlS rb (ro+j*21) bd ed body.length els.length)) (by kernel_rfl) ?_ (fun hHeld=>?_)
   ·((try dsimp only);(first|exact HS3.out|exact HS2.out|exact HS.out))
   refine tk 0 ?_
   try simp only[sl1,sl2,sl3,Act.put,sl4,sl5,sl6]
   refine tk 1 ?_
   try simp only[sl1,sl2,sl3,Act.put,sl4,sl5,sl6]
   refine tk 2 ?_
   try simp only[sl1,sl2,sl3,Act.put,sl4,sl5,sl6]
   refine tk 3 ?_
   try simp only[sl1,sl2,sl3,Act.put,sl4,sl5,sl6]
   refine tk 4 ?_
   try simp only[sl1,sl2,sl3,Act.put,sl4,sl5,sl6]
   refine tk 5 ?_
   try simp only[sl1,sl2,sl3,Act.put,sl4,sl5,sl6]
   refine tk 6 ?_
   try simp only[sl1,sl2,sl3,Act.put,sl4,sl5,sl6]
   refine tk 9 ?_
   try simp only[sl1,sl2,sl3,Act.put,sl4,sl5,sl6]
   refine tk 10 ?_
   try simp only[sl1,sl2,sl3,Act.put,sl4,sl5,sl6]
   refine tk 11 ?_
   try simp only[sl1,sl2,sl3,Act.put,sl4,sl5,sl6]
   refine tk 12 ?_
   try simp only[sl1,sl2,sl3,Act.put,sl4,sl5,sl6]
   refine tk 13 ?_
   try simp only[sl1,sl2,sl3,Act.put,sl4,sl5,sl6]
   refine wpAnyL_step (j:=7) (o:=_) (by kernel_rfl) rfl (fun K hK=>?_)
   (go_simp;go_at_call 46;refine CB.out.mono ?_;rintro e v2 ⟨rfl,hb⟩;have HB2:=Lib.hid hb;have HS2:Hid (PlS rb (ro+j*21) bd ed body.length els.length v2):=Lib.hid (have h:=HS.out;⟨(hb.cell (World.block_lt_of_cell? _ _ h.1)).trans h.1,(hb.cell (World.block_lt_of_cell? _ _ h.2)).trans h.2⟩);clear hb)
   refine hK _ _ ?_ (fun hHeld=>?_)
   ·((try dsimp only);(first|exact HS3.out|exact HS2.out|exact HS.out))
   clear hK K
   try simp only[sl1,sl2,sl3,Act.put,sl4,sl5,sl6]
   refine tk 8 ?_
   try simp only[sl1,sl2,sl3,Act.put,sl4,sl5,sl6]
   refine wpAnyL_step (j:=14) (o:=_) (by kernel_rfl) rfl (fun K hK=>?_)
   (go_simp;go_at_call 46;refine (CE.out v2 HB2.out).mono ?_;rintro e v3 ⟨rfl,hb⟩;have HB3:Hid (Below w.heap.size w v3):=Lib.hid (HBd.out.trans ((HB2.out.mono HBd.out.size).trans (hb.mono (Nat.le_trans HBd.out.size HB2.out.size))));have HS3:Hid (PlS rb (ro+j*21) bd ed body.length els.length v3):=Lib.hid (have h:=HS2.out;⟨(hb.cell (World.block_lt_of_cell? _ _ h.1)).trans h.1,(hb.cell (World.block_lt_of_cell? _ _ h.2)).trans h.2⟩);clear hb)
   refine hK _ _ ?_ (fun hHeld=>?_)
   ·((try dsimp only);(first|exact HS3.out|exact HS2.out|exact HS.out))
   clear hK K
   try simp only[sl1,sl2,sl3,Act.put,sl4,sl5,sl6]
   refine wpAnyL_step (j:=15) (o:=_) (by kernel_rfl) rfl (fun K hK=>?_)
   go_simp
   refine hK _ _ ?_ (fun hHeld=>?_)
   ·((try dsimp only);(first|exact HS3.out|exact HS2.out|exact HS.out))
   clear hK K
   try simp only[sl1,sl2,sl3,Act.put,sl4,sl5,sl6]
   refine wpAnyL_last (j:=16) (o:=_) (by kernel_rfl) rfl (by rfl) (by kernel_rfl) (fun K hK=>?_)
   go_simp
   (refine hK _ _ ?_;clear hK K)
   try simp only[sl1,sl2,sl3,Act.put,sl4,sl5,sl6]
   go_wp2_with fail
   go_roundw
   case rel=>exact⟨j+1,a+1+plSts body+plSts els,rfl,by go_num,by omega,by omega,HB3⟩
   case measure=>simp[intOf];omega
  ·obtain rfl:j=l.length:=by omega
   obtain rfl:a=plSts l:=by rw[List.drop_length,plSts]at ha;omega
   go_wp2_with fail
   go_ret
   exact⟨rfl,hB.out⟩
theorem len_plSts:∀l:List St,l.length≤plSts l
 |[]=>Nat.zero_le _
 |s::r=>by
  rw[plSts,List.length_cons]
  have:=len_plSts r
  obtain⟨k,nm,t,x,y,bd,body,ed,els⟩:=s
  rw[plSt];omega
theorem mem_plSts:∀{l:List St} {s:St},s∈l→plSt s≤plSts l
 |a::r,s,h=>by
  rw[plSts]
  rcases List.mem_cons.1 h with rfl|h
  ·omega
  ·have:=mem_plSts h;omega
theorem rplaces_any:∀(sz:Nat) (l:List St),plSts l≤sz→plSts l≤1000000→RPl l:=by
 intro sz
 induction sz using Nat.strongRecOn with
 |ind sz ih=>
  intro l hsz hs
  refine rplaces_of l hs (by have:=len_plSts l;omega) fun s hm k nm t x y bd body ed els he=>?_
  have h1:=mem_plSts hm
  rw[he,plSt]at h1
  exact⟨ih (plSts body) (by omega) body (Nat.le_refl _) (by omega),ih (plSts els) (by omega) els (Nat.le_refl _) (by omega),by omega⟩
def sumF (l:List Fu):Nat:=(l.map fun f=>plSts f.body).sum
def sumT (l:List Th):Nat:=(l.map fun t=>plSts t.l).sum
theorem sumF_cons (f:Fu) (l:List Fu):sumF (f::l)=plSts f.body+sumF l:=by simp[sumF]
theorem sumT_cons (f:Th) (l:List Th):sumT (f::l)=plSts f.l+sumT l:=by simp[sumT]
set_option maxHeartbeats 4000000 in
set_option maxRecDepth 100000 in
theorem rplacesOf_any (p:Pr) (w:World) (hI:PrIn w w.heap.size p) (h2:placesOf p≤1000000):
  Calls Tryz.prog 13 #[p.val] w fun e w'=>e=.returned (.int .i64 (placesOf p:Nat))∧Below w.heap.size w w':=by
 have hpl:placesOf p=p.rs.length+p.ss.length+p.fs.length+p.ts.length+(sumF p.fs+sumT p.ts):=rfl
 obtain⟨R,hR⟩:∃R,placesOf p=R:=⟨_,rfl⟩
 rw[hR]at h2 hpl ⊢
 obtain⟨X,hX⟩:∃X,w.heap.size=X:=⟨_,rfl⟩
 obtain⟨w1,hw1⟩:∃w1,w.alloc (prObj p)=w1:=⟨_,rfl⟩
 have hb1:Below w.heap.size w w1:=by rw[←hw1];exact (Below.refl _ _).alloc (Nat.le_refl _) _
 have x1:w1.heap[X]? =some (prObj p):=by rw[←hw1,←hX];exact heap_alloc_new w _
 have HQ:Hid (∀W,Below w1.heap.size w1 W→W.cell? ⟨X,0,none⟩=some (.slice p.rd.a p.rs.length p.rd.c)∧W.cell? ⟨X,1,none⟩=some (.slice p.sd.a p.ss.length p.sd.c)∧W.cell? ⟨X,2,none⟩=some (.slice p.fd.a p.fs.length p.fd.c)∧W.cell? ⟨X,3,none⟩=some (.slice p.td.a p.ts.length p.td.c)):=Lib.hid fun W hb=>
  have h:=(hb.block X (blk_lt x1)).trans x1
  ⟨cell_at h 0,cell_at h 1,cell_at h 2,cell_at h 3⟩
 have HI:Hid (∀W,Below w1.heap.size w1 W→PrIn W W.heap.size p):=Lib.hid fun W hb=>hI.keep (hb1.trans (hb.mono hb1.size)) (hb1.trans (hb.mono hb1.size)).size
 have HBw:Hid (∀W,Below w1.heap.size w1 W→Below w.heap.size w W):=Lib.hid fun W hb=>hb1.trans (hb.mono hb1.size)
 have HB0:Hid (Below w1.heap.size w1 w1):=Lib.hid (Below.refl _ _)
 have HN:=Lib.hid (And.intro hX hw1)
 obtain⟨q0,q1,q2,q3⟩:=HQ.out _ HB0.out
 rw[←hw1]at q0 q1
 have e0:IntKind.i64.wrap ((p.rs.length:Int)+(p.ss.length:Int))=((p.rs.length+p.ss.length:Nat):Int):=by rw[IntKind.wrap_i64];omega
 clear hX hw1 hb1 x1 hI hR q2 q3
 dsimp only[Pr.val]
 go_enter Tryz.func13,Tryz.ntmps13
 go_wp2_with fail
 simp only[HN.out.1,HN.out.2]
 clear q0 q1 e0
 go_loopw [3,4] (fun nn ii wr=>∃(j a:Nat),nn=.int .i64 a∧ii=.int .i64 j∧j≤p.fs.length∧a+((p.fs.drop j).length+sumF (p.fs.drop j))+(p.ts.length+sumT p.ts)=R∧Hid (Below w1.heap.size w1 wr)) (fun nn ii _=>p.fs.length - (intOf ii).toNat)
 case atStart=>exact⟨0,_,rfl,rfl,Nat.zero_le _,by rw[List.drop_zero];omega,HB0⟩
 case round=>
  obtain⟨j,a,rfl,rfl,hj,ha,hB⟩:=hrel
  have p2:(0:Int)≤(j:Int):=Int.natCast_nonneg _
  by_cases hlt:j<p.fs.length
  ·have p1:(j:Int)<(p.fs.length:Int):=by omega
   obtain⟨y,hy⟩:∃y,p.fs[j]? =some y:=⟨_,List.getElem?_eq_getElem hlt⟩
   have hdrop:p.fs.drop j=y::p.fs.drop (j+1):=by
    have:=List.drop_eq_getElem_cons hlt
    rw[List.getElem?_eq_getElem hlt]at hy
    injection hy with hy
    rw[this,hy]
   rw[hdrop,sumF_cons,List.length_cons]at ha
   have hmem:=List.mem_of_getElem? hy
   obtain⟨rb,ro,hda,-,hrow⟩:=(HI.out _ hB.out).frow (by intro h0;rw[h0]at hlt;simp at hlt)
   have z5:=(hrow j y hy).c5
   have CB:=Lib.hid (rplaces_any _ y.body (Nat.le_refl _) (by omega) y.bd wr ((HI.out _ hB.out).fsub y hmem).body)
   obtain⟨q0,q1,q2,q3⟩:=HQ.out _ hB.out
   have w1':IntKind.i64.wrap ((a:Int)+1)=(a:Int)+1:=by rw[IntKind.wrap_i64];omega
   have w2':IntKind.i64.wrap ((a:Int)+1+(plSts y.body:Nat))=((a+1+plSts y.body:Nat):Int):=by rw[IntKind.wrap_i64];omega
   clear q0 q1 q3 hrow hdrop hy hmem
   rw[hda]at q2
   clear hda
   go_wp2_with fail
   refine CB.out.mono ?_
   rintro e v2 ⟨rfl,hb⟩
   have HB2:Hid (Below w1.heap.size w1 v2):=Lib.hid (hB.out.trans (hb.mono hB.out.size))
   clear hb CB q2 z5
   go_wp2_with fail
   go_roundw
   case rel=>exact⟨j+1,a+1+plSts y.body,rfl,by go_num,by omega,by omega,HB2⟩
   case measure=>simp[intOf];omega
  ·obtain rfl:j=p.fs.length:=by omega
   have ha2:a+(p.ts.length+sumT p.ts)=R:=by
    rw[List.drop_length]at ha
    simpa [sumF] using ha
   obtain⟨q0,q1,q2,q3⟩:=HQ.out _ hB.out
   clear q0 q1 q3 ha
   go_wp2_with fail
   clear q2 p2 hlt hj
   go_loopw [3,5] (fun nn ii wr=>∃(j a:Nat),nn=.int .i64 a∧ii=.int .i64 j∧j≤p.ts.length∧a+((p.ts.drop j).length+sumT (p.ts.drop j))=R∧Hid (Below w1.heap.size w1 wr)) (fun nn ii _=>p.ts.length - (intOf ii).toNat)
   case atStart=>exact⟨0,_,rfl,rfl,Nat.zero_le _,by rw[List.drop_zero];omega,hB⟩
   case round=>
    clear ha2 hB
    obtain⟨j,a,rfl,rfl,hj,ha,hB⟩:=hrel
    have p2:(0:Int)≤(j:Int):=Int.natCast_nonneg _
    by_cases hlt:j<p.ts.length
    ·have p1:(j:Int)<(p.ts.length:Int):=by omega
     obtain⟨y,hy⟩:∃y,p.ts[j]? =some y:=⟨_,List.getElem?_eq_getElem hlt⟩
     have hdrop:p.ts.drop j=y::p.ts.drop (j+1):=by
      have:=List.drop_eq_getElem_cons hlt
      rw[List.getElem?_eq_getElem hlt]at hy
      injection hy with hy
      rw[this,hy]
     rw[hdrop,sumT_cons,List.length_cons]at ha
     have hmem:=List.mem_of_getElem? hy
     obtain⟨rb,ro,hda,-,hrow⟩:=(HI.out _ hB.out).trow (by intro h0;rw[h0]at hlt;simp at hlt)
     have z5:=(hrow j y hy).c0
     rw[Nat.mul_one]at z5
     have CB:=Lib.hid (rplaces_any _ y.l (Nat.le_refl _) (by omega) y.d wr ((HI.out _ hB.out).tsub y hmem))
     obtain⟨q0,q1,q2,q3⟩:=HQ.out _ hB.out
     have w1':IntKind.i64.wrap ((a:Int)+1)=(a:Int)+1:=by rw[IntKind.wrap_i64];omega
     have w2':IntKind.i64.wrap ((a:Int)+1+(plSts y.l:Nat))=((a+1+plSts y.l:Nat):Int):=by rw[IntKind.wrap_i64];omega
     clear q0 q1 q2 hrow hdrop hy hmem
     rw[hda]at q3
     clear hda
     go_wp2_with fail
     refine CB.out.mono ?_
     rintro e v2 ⟨rfl,hb⟩
     have HB2:Hid (Below w1.heap.size w1 v2):=Lib.hid (hB.out.trans (hb.mono hB.out.size))
     clear hb CB q3 z5
     go_wp2_with fail
     go_roundw
     case rel=>exact⟨j+1,a+1+plSts y.l,rfl,by go_num,by omega,by omega,HB2⟩
     case measure=>simp[intOf];omega
    ·obtain rfl:j=p.ts.length:=by omega
     obtain rfl:a=R:=by
      rw[List.drop_length]at ha
      simpa [sumT] using ha
     obtain⟨q0,q1,q2,q3⟩:=HQ.out _ hB.out
     clear q0 q1 q2
     go_wp2_with fail
     go_ret
     exact⟨rfl,HBw.out _ hB.out⟩
end Go.Proofs.YtkklogikakcanaaGreatDoor
